/- Uses as plain data. -/
import Derived.Test.YtialceppopjhaaaPureRenew
import Derived.Test.YtialceppopjhaaaPureRevoke
set_option linter.unusedSimpArgs false
set_option linter.unusedVariables false
namespace Go.Proofs.Ytialceppopjhaaa
open Go.RowKit
theorem forest_uses {ts : List Token} {i : Nat} {t : Token} (hf : forestOk ts = true) (ht : ts[i]? = some t) : 0 ≤ t.Uses ∧ t.Uses ≤ 1000 := by
  have h := okAll_get (forestOk_all hf) (List.getElem?_eq_some_iff.1 ht).1 ht
  simp only [inForest, Bool.and_eq_true] at h
  have h2 := h.1
  unfold tokOk at h2
  simp only [Bool.and_eq_true] at h2
  exact withinB_iff.1 h2.2.2.2.2.2.2
def withUses (t : Token) (u : Int) : Token := ⟨t.Id, t.Parent, t.Names, t.Made, t.Ends, t.Limit, u⟩
def useC (ts : List Token) (id now : Int) : Int := match decide (idxT ts id < 0) with
  | true => 2
  | false => match lateB (tokN ts id) now with
    | true => 3
    | false => 0
def usedT (ts : List Token) (id : Int) : List Token := match (tokN ts id).Uses == 1 with
  | true => lessT ts (belowS ts id)
  | false => match decide (1 < (tokN ts id).Uses) with
    | true => ts.set (idxT ts id).toNat (withUses (tokN ts id) ((tokN ts id).Uses - 1))
    | false => ts
def useT (ts : List Token) (id now : Int) : List Token := match useC ts id now == 0 with
  | true => usedT ts id
  | false => ts
def useGood (ts : List Token) (now : Int) : Bool := forestOk ts && withinB now 0 1000000000
def UseC (ts : List Token) (id now : Int) : Int := match useGood ts now with | true => useC ts id now | false => 1
def UseT (ts : List Token) (id now : Int) : List Token := match useGood ts now with | true => useT ts id now | false => ts
theorem UseT_sz (ts : List Token) (id now : Int) : szList TokenR (UseT ts id now) ≤ 2 * szList TokenR ts := by
  unfold UseT
  cases useGood ts now
  · simp only; omega
  · simp only
    unfold useT
    cases useC ts id now == 0
    · simp only; omega
    · simp only
      unfold usedT
      cases (tokN ts id).Uses == 1
      · simp only
        cases decide (1 < (tokN ts id).Uses)
        · simp only; omega
        · simp only
          have h1 := tokN_sz ts id
          rw [sz_Token] at h1
          have := szList_set_le TokenR ts (idxT ts id).toNat (withUses (tokN ts id) ((tokN ts id).Uses - 1)) (szList TokenR ts) (by rw [sz_Token]; exact h1)
          omega
      · simp only
        have := lessT_sz ts (belowS ts id)
        omega
section
variable {ts : List Token} {id now : Int} {i : Nat} {t : Token}
theorem use_none (h : idxT ts id < 0) : useC ts id now = 2 ∧ useT ts id now = ts := by
  have h1 : useC ts id now = 2 := by unfold useC; rw [decide_eq_true h]
  exact ⟨h1, by unfold useT; rw [h1]; rfl⟩
theorem use_late (h : idxT ts id = i) (ht : ts[i]? = some t) (hl : lateB t now = true) : useC ts id now = 3 ∧ useT ts id now = ts := by
  have h1 : useC ts id now = 3 := by unfold useC; rw [decide_eq_false (by omega : ¬ idxT ts id < 0), tokN_at h ht, hl]
  exact ⟨h1, by unfold useT; rw [h1]; rfl⟩
theorem use_done (h : idxT ts id = i) (ht : ts[i]? = some t) (hl : lateB t now = false) : useC ts id now = 0 ∧ useT ts id now = usedT ts id := by
  have h1 : useC ts id now = 0 := by unfold useC; rw [decide_eq_false (by omega : ¬ idxT ts id < 0), tokN_at h ht, hl]
  exact ⟨h1, by unfold useT; rw [h1]; rfl⟩
theorem use_last (h : idxT ts id = i) (ht : ts[i]? = some t) (hl : lateB t now = false) (hu : (t.Uses == 1) = true) : useC ts id now = 0 ∧ useT ts id now = lessT ts (belowS ts id) := by
  obtain ⟨h1, h2⟩ := use_done h ht hl
  exact ⟨h1, by rw [h2]; unfold usedT; rw [tokN_at h ht, hu]⟩
theorem use_more (h : idxT ts id = i) (ht : ts[i]? = some t) (hl : lateB t now = false) (hu : (t.Uses == 1) = false) (hm : 1 < t.Uses) : useC ts id now = 0 ∧ useT ts id now = ts.set i (withUses t (t.Uses - 1)) := by
  obtain ⟨h1, h2⟩ := use_done h ht hl
  exact ⟨h1, by rw [h2]; unfold usedT; rw [tokN_at h ht, hu, decide_eq_true hm, h, Int.toNat_natCast]⟩
theorem use_keep (h : idxT ts id = i) (ht : ts[i]? = some t) (hl : lateB t now = false) (hu : (t.Uses == 1) = false) (hm : ¬ 1 < t.Uses) : useC ts id now = 0 ∧ useT ts id now = ts := by
  obtain ⟨h1, h2⟩ := use_done h ht hl
  exact ⟨h1, by rw [h2]; unfold usedT; rw [tokN_at h ht, hu, decide_eq_false hm]⟩
theorem Use_bad (h : useGood ts now = false) : UseC ts id now = 1 ∧ UseT ts id now = ts := by unfold UseC UseT; rw [h]; exact ⟨rfl, rfl⟩
theorem Use_good (h : useGood ts now = true) : UseC ts id now = useC ts id now ∧ UseT ts id now = useT ts id now := by unfold UseC UseT; rw [h]; exact ⟨rfl, rfl⟩
end
end Go.Proofs.Ytialceppopjhaaa

/- Forests as plain data: when a forest is valid. -/
import Derived.Test.YtialceppopjhaaaTokRd
set_option linter.unusedSimpArgs false
set_option linter.unusedVariables false
namespace Go.Proofs.Ytialceppopjhaaa
open Go.RowKit
def parentOk (ts : List Token) (t : Token) : Bool := t.Parent == 0 || decide (0 ≤ idxT ts t.Parent)
def inForest (ts : List Token) (t : Token) : Bool := tokOk t && parentOk ts t
def idLt (s t : Token) : Bool := decide (s.Id < t.Id)
def forestOk (ts : List Token) : Bool := decide (ts.length ≤ 120) && okAll (inForest ts) idLt ts ts.length
theorem forestOk_bad {ts : List Token} {k : Nat} (hk : k < ts.length) (h : okAt (inForest ts) idLt ts k = false) : forestOk ts = false := by unfold forestOk; rw [okAll_false hk h, Bool.and_false]
theorem forestOk_done {ts : List Token} (h : okAll (inForest ts) idLt ts ts.length = true) : forestOk ts = decide (ts.length ≤ 120) := by unfold forestOk; rw [h, Bool.and_true]
theorem forestOk_long {ts : List Token} (h : ¬ ts.length ≤ 120) : forestOk ts = false := by unfold forestOk; rw [decide_eq_false h, Bool.false_and]
theorem forestOk_len {ts : List Token} (h : forestOk ts = true) : ts.length ≤ 120 := by
  unfold forestOk at h
  simp only [Bool.and_eq_true, decide_eq_true_eq] at h
  exact h.1
theorem forestOk_all {ts : List Token} (h : forestOk ts = true) : okAll (inForest ts) idLt ts ts.length = true := by
  unfold forestOk at h
  simp only [Bool.and_eq_true] at h
  exact h.2
theorem inForest_bad {ts : List Token} {t : Token} (h : tokOk t = false) : inForest ts t = false := by unfold inForest; rw [h, Bool.false_and]
theorem inForest_zero {ts : List Token} {t : Token} (h : tokOk t = true) (h2 : (t.Parent == 0) = true) : inForest ts t = true := by unfold inForest parentOk; rw [h, h2]; rfl
theorem inForest_at {ts : List Token} {t : Token} (h : tokOk t = true) (h2 : (t.Parent == 0) = false) : inForest ts t = decide (0 ≤ idxT ts t.Parent) := by unfold inForest parentOk; rw [h, h2]; rfl
end Go.Proofs.Ytialceppopjhaaa

/- Timers as plain data: when a clock is valid; where a timer stands; their order. -/
import Derived.Test.YthahnaigdoiddaaTimer
import Derived.Test.YthahnaigdoiddaaImplWithin
set_option linter.unusedSimpArgs false
set_option linter.unusedVariables false
set_option maxRecDepth 20000
namespace Go.Proofs.Ythahnaigdoiddaa
open Go.RowKit
def timerOk (t : Timer) : Bool := withinB t.At 0 1000000000 && withinB t.Id 1 1000000000
def cmpT (a b : Timer) : Int := orI (cmpI a.At b.At) (cmpI a.Id b.Id)
def hasId (id : Int) (t : Timer) : Bool := t.Id == id
/-- The timer number k of a list stands well: it is valid, behind the one ahead of it, and its Id is new. -/
def goodB (ts : List Timer) (k : Nat) : Bool :=
  match ts[k]? with
  | some t => timerOk t && (match k with | 0 => true | j + 1 => (match ts[j]? with | some s => decide (cmpT s t < 0) | none => true)) && decide (idxB (hasId t.Id) (ts.take k) < 0)
  | none => true
def goodAll (ts : List Timer) (n : Nat) : Bool := (List.range n).all (goodB ts)
def clockOk (now : Int) (ts : List Timer) : Bool := withinB now 0 1000000000 && (decide (ts.length ≤ 300) && goodAll ts ts.length)
theorem goodAll_succ (ts : List Timer) (n : Nat) : goodAll ts (n + 1) = (goodAll ts n && goodB ts n) := by simp [goodAll, List.range_succ]
theorem goodAll_false {ts : List Timer} {k : Nat} (hk : k < ts.length) (h : goodB ts k = false) : goodAll ts ts.length = false := by
  simp only [goodAll, List.all_eq_false]
  exact ⟨k, List.mem_range.2 hk, by simp [h]⟩
theorem goodB_bad {ts : List Timer} {k : Nat} {t : Timer} (ht : ts[k]? = some t) (h : timerOk t = false) : goodB ts k = false := by simp [goodB, ht, h]
theorem goodB_first {ts : List Timer} {k : Nat} {t : Timer} (hk : ¬ 0 < k) (ht : ts[k]? = some t) (h : timerOk t = true) : goodB ts k = decide (idxB (hasId t.Id) (ts.take k) < 0) := by
  obtain rfl : k = 0 := by omega
  unfold goodB
  rw [ht]
  simp [h]
theorem goodB_order {ts : List Timer} {k : Nat} {s t : Timer} (hk : 0 < k) (ht : ts[k]? = some t) (hs : ts[k - 1]? = some s) (h : ¬ cmpT s t < 0) : goodB ts k = false := by
  obtain ⟨j, rfl⟩ : ∃ j, k = j + 1 := ⟨k - 1, by omega⟩
  simp only [Nat.add_sub_cancel] at hs
  simp [goodB, ht, hs, h]
theorem goodB_next {ts : List Timer} {k : Nat} {s t : Timer} (hk : 0 < k) (ht : ts[k]? = some t) (hs : ts[k - 1]? = some s) (h1 : timerOk t = true) (h : cmpT s t < 0) : goodB ts k = decide (idxB (hasId t.Id) (ts.take k) < 0) := by
  obtain ⟨j, rfl⟩ : ∃ j, k = j + 1 := ⟨k - 1, by omega⟩
  simp only [Nat.add_sub_cancel] at hs
  simp [goodB, ht, hs, h, h1]
def aheadB (a b : Timer) : Bool := decide (a.At < b.At) || (a.At == b.At && decide (a.Id < b.Id))
theorem aheadB_eq (a b : Timer) : aheadB a b = decide (cmpT a b < 0) := by
  unfold aheadB cmpT orI cmpI
  by_cases h1 : a.At < b.At
  · simp [h1]
  · by_cases h2 : b.At < a.At
    · have : a.At ≠ b.At := by omega
      simp [h1, h2, this]
    · have : a.At = b.At := by omega
      by_cases h3 : a.Id < b.Id
      · simp [this, h3]
      · by_cases h4 : b.Id < a.Id <;> simp [this, h3, h4]
/-- No timer of the first j has this Id. -/
theorem idxB_take_none {ts : List Timer} {k : Nat} {id : Int} (h : ∀ j (hj : j < ts.length), j < k → hasId id ts[j] = false) : idxB (hasId id) (ts.take k) < 0 := by
  rw [idxB_none (fun j hj => by
    rw [List.length_take] at hj
    rw [List.getElem_take]
    exact h j (by omega) (by omega))]
  omega
theorem idxB_take_some {ts : List Timer} {k j : Nat} {id : Int} (hj : j < ts.length) (hk : j < k) (h : hasId id ts[j] = true) : ¬ idxB (hasId id) (ts.take k) < 0 := by
  unfold idxB
  cases hf : (ts.take k).findIdx? (hasId id) with
  | some i => simp
  | none =>
    have := List.findIdx?_eq_none_iff.1 hf ts[j] (by
      rw [List.mem_take_iff_getElem]
      exact ⟨j, by omega, rfl⟩)
    rw [h] at this
    cases this
def timerAtF (now : Int) (ts : List Timer) (id : Int) : Int := if clockOk now ts then (match ts.find? (hasId id) with | some t => t.At | none => -1) else -1
def nextDueF (now : Int) (ts : List Timer) : Int := if clockOk now ts then (match ts with | t :: _ => t.At | [] => -1) else -1
def countDue (ts : List Timer) (x : Int) : Nat := ts.countP (fun t => decide (t.At ≤ x))
def dueByF (now : Int) (ts : List Timer) (x : Int) : Int := if clockOk now ts then (countDue ts x : Int) else -1
theorem clock_len {now : Int} {ts : List Timer} (h : clockOk now ts = true) : ts.length ≤ 300 := by
  simp only [clockOk, Bool.and_eq_true, decide_eq_true_eq] at h
  exact h.2.1
theorem countDue_succ {ts : List Timer} {k : Nat} {t : Timer} (ht : ts[k]? = some t) (x : Int) : countDue (ts.take (k + 1)) x = countDue (ts.take k) x + if t.At ≤ x then 1 else 0 := by
  obtain ⟨h, e⟩ := List.getElem?_eq_some_iff.1 ht
  rw [List.take_succ_eq_append_getElem h, e]
  simp [countDue, List.countP_append, List.countP_cons]
theorem countDue_le (ts : List Timer) (x : Int) : countDue ts x ≤ ts.length := List.countP_le_length
theorem timerAtF_found {now : Int} {ts : List Timer} {id : Int} {k : Nat} {t : Timer} (hc : clockOk now ts = true) (ht : ts[k]? = some t) (hid : hasId id t = true) (h : ∀ j (hj : j < ts.length), j < k → hasId id ts[j] = false) : timerAtF now ts id = t.At := by
  obtain ⟨hk, e⟩ := List.getElem?_eq_some_iff.1 ht
  unfold timerAtF
  rw [if_pos hc]
  have : ts.find? (hasId id) = some t := by
    rw [List.find?_eq_some_iff_getElem]
    exact ⟨hid, k, hk, e, fun j hj => by rw [h j (by omega) hj]; rfl⟩
  rw [this]
theorem timerAtF_none {now : Int} {ts : List Timer} {id : Int} (h : ∀ j (hj : j < ts.length), hasId id ts[j] = false) : timerAtF now ts id = -1 := by
  unfold timerAtF
  have : ts.find? (hasId id) = none := by
    rw [List.find?_eq_none]
    intro t ht
    obtain ⟨j, hj, rfl⟩ := List.mem_iff_getElem.1 ht
    rw [h j hj]
    simp
  rw [this]
  split <;> rfl
theorem timerAtF_bad {now : Int} {ts : List Timer} {id : Int} (hc : clockOk now ts = false) : timerAtF now ts id = -1 := by simp [timerAtF, hc]
end Go.Proofs.Ythahnaigdoiddaa

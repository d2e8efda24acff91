/- Advancing a clock, as plain data. -/
import Derived.Test.YthahnaigdoiddaaPureStop
set_option linter.unusedSimpArgs false
set_option linter.unusedVariables false
set_option maxRecDepth 20000
namespace Go.Proofs.Ythahnaigdoiddaa
open Go.RowKit
def dueB (now : Int) (t : Timer) : Bool := decide (t.At ≤ now)
def advB (c : Clock) (now : Int) : Bool := clockOk c.Now c.Timers && withinB now c.Now 1000000000
def advT (ts : List Timer) (now : Int) : List Timer := ts.filter fun t => !dueB now t
def advIds (ts : List Timer) (now : Int) : List Int := (ts.filter (dueB now)).map (·.Id)
def advC (c : Clock) (now : Int) : Clock := match advB c now with | true => ⟨now, advT c.Timers now⟩ | false => c
def advI (c : Clock) (now : Int) : List Int := match advB c now with | true => advIds c.Timers now | false => []
theorem adv_yes {c : Clock} {now : Int} (h : advB c now = true) : advC c now = ⟨now, advT c.Timers now⟩ ∧ advI c now = advIds c.Timers now := by unfold advC advI; rw [h]; exact ⟨rfl, rfl⟩
theorem adv_no {c : Clock} {now : Int} (h : advB c now = false) : advC c now = c ∧ advI c now = [] := by unfold advC advI; rw [h]; exact ⟨rfl, rfl⟩
theorem cmpT_at {s t : Timer} (h : cmpT s t < 0) : s.At ≤ t.At := by
  unfold cmpT orI cmpI at h
  by_cases h1 : s.At < t.At
  · omega
  · by_cases h2 : t.At < s.At
    · simp [h1, h2] at h
    · omega
theorem good_step {ts : List Timer} (h : goodAll ts ts.length = true) {j : Nat} {s t : Timer} (hs : ts[j]? = some s) (ht : ts[j + 1]? = some t) : cmpT s t < 0 := by
  have hl := (List.getElem?_eq_some_iff.1 ht).1
  have hb : goodB ts (j + 1) = true := by
    simp only [goodAll, List.all_eq_true] at h
    exact h _ (List.mem_range.2 hl)
  unfold goodB at hb
  rw [ht] at hb
  simp only [hs, Bool.and_eq_true, decide_eq_true_eq] at hb
  exact hb.1.2
/-- The timers stand in the order of their times. -/
theorem good_mono {ts : List Timer} (h : goodAll ts ts.length = true) : ∀ (d i : Nat) (s t : Timer), ts[i]? = some s → ts[i + d]? = some t → s.At ≤ t.At
  | 0, i, s, t, hs, ht => by
    rw [Nat.add_zero, hs] at ht
    obtain rfl : s = t := by simpa using ht
    omega
  | d + 1, i, s, t, hs, ht => by
    have hl := (List.getElem?_eq_some_iff.1 ht).1
    have hu := List.getElem?_eq_getElem (l := ts) (i := i + d) (by omega)
    have h1 := good_mono h d i s _ hs hu
    have h2 := cmpT_at (good_step h hu ht)
    omega
/-- Up to the first timer that is not due all are, and from it on none is. -/
theorem adv_split {ts : List Timer} {now : Int} (h : goodAll ts ts.length = true) {k : Nat} (hk : k ≤ ts.length) (h1 : ∀ t ∈ ts.take k, dueB now t = true) (h2 : ∀ t, ts[k]? = some t → dueB now t = false) :
    advT ts now = ts.drop k ∧ advIds ts now = (ts.take k).map (·.Id) := by
  have hd : ∀ t ∈ ts.drop k, dueB now t = false := by
    intro t ht
    obtain ⟨j, hj, rfl⟩ := List.mem_iff_getElem.1 ht
    rw [List.length_drop] at hj
    rw [List.getElem_drop]
    have hk1 := List.getElem?_eq_getElem (l := ts) (i := k) (by omega)
    have h3 := h2 _ hk1
    have h4 := good_mono h j k _ _ hk1 (List.getElem?_eq_getElem (l := ts) (i := k + j) (by omega))
    unfold dueB at h3 ⊢
    rw [decide_eq_false_iff_not] at h3 ⊢
    omega
  have e1 : (ts.take k).filter (fun t => !dueB now t) = [] := by
    rw [List.filter_eq_nil_iff]
    intro t ht
    rw [h1 t ht]
    simp
  have e2 : (ts.drop k).filter (fun t => !dueB now t) = ts.drop k := by
    rw [List.filter_eq_self]
    intro t ht
    rw [hd t ht]
    rfl
  have e3 : (ts.take k).filter (dueB now) = ts.take k := by
    rw [List.filter_eq_self]
    exact h1
  have e4 : (ts.drop k).filter (dueB now) = [] := by
    rw [List.filter_eq_nil_iff]
    intro t ht
    rw [hd t ht]
    simp
  constructor
  · unfold advT
    conv => lhs; rw [← List.take_append_drop k ts]
    rw [List.filter_append, e1, e2]
    rfl
  · unfold advIds
    conv => lhs; rw [← List.take_append_drop k ts]
    rw [List.filter_append, e3, e4, List.append_nil]
theorem advT_no {ts : List Timer} {k : Nat} {t : Timer} {now : Int} (ht : ts[k]? = some t) (h : dueB now t = false) : advT (ts.take (k + 1)) now = advT (ts.take k) now ++ [t] := by
  rw [take_snoc ht]
  unfold advT
  rw [List.filter_append]
  simp [h]
theorem advT_yes {ts : List Timer} {k : Nat} {t : Timer} {now : Int} (ht : ts[k]? = some t) (h : dueB now t = true) : advT (ts.take (k + 1)) now = advT (ts.take k) now := by
  rw [take_snoc ht]
  unfold advT
  rw [List.filter_append]
  simp [h]
theorem advIds_yes {ts : List Timer} {k : Nat} {t : Timer} {now : Int} (ht : ts[k]? = some t) (h : dueB now t = true) : advIds (ts.take (k + 1)) now = advIds (ts.take k) now ++ [t.Id] := by
  rw [take_snoc ht]
  unfold advIds
  rw [List.filter_append, List.map_append]
  simp [h]
theorem advIds_no {ts : List Timer} {k : Nat} {t : Timer} {now : Int} (ht : ts[k]? = some t) (h : dueB now t = false) : advIds (ts.take (k + 1)) now = advIds (ts.take k) now := by
  rw [take_snoc ht]
  unfold advIds
  rw [List.filter_append, List.map_append]
  simp [h]
theorem advT_len (ts : List Timer) (now : Int) : (advT ts now).length ≤ ts.length := List.length_filter_le _ _
theorem advIds_len (ts : List Timer) (now : Int) : (advIds ts now).length ≤ ts.length := by unfold advIds; rw [List.length_map]; exact List.length_filter_le _ _
theorem advC_len (c : Clock) (now : Int) : (advC c now).Timers.length ≤ c.Timers.length := by
  unfold advC
  cases advB c now
  · exact Nat.le_refl _
  · exact advT_len _ _
theorem advI_len (c : Clock) (now : Int) : (advI c now).length ≤ c.Timers.length := by
  unfold advI
  cases advB c now
  · exact Nat.zero_le _
  · exact advIds_len _ _
end Go.Proofs.Ythahnaigdoiddaa

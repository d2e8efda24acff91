/- Stopping a timer, as plain data. -/
import Derived.Test.YthahnaigdoiddaaPureTimer
import Derived.Test.YthahnaigdoiddaaClock2
set_option linter.unusedSimpArgs false
set_option linter.unusedVariables false
set_option maxRecDepth 20000
namespace Go.Proofs.Ythahnaigdoiddaa
open Go.RowKit
theorem goodAll_at {ts : List Timer} (h : goodAll ts ts.length = true) {j : Nat} {t : Timer} (hj : ts[j]? = some t) : timerOk t = true ∧ ∀ i s, i < j → ts[i]? = some s → s.Id ≠ t.Id := by
  have hl := (List.getElem?_eq_some_iff.1 hj).1
  have hb : goodB ts j = true := by
    simp only [goodAll, List.all_eq_true] at h
    exact h j (List.mem_range.2 hl)
  unfold goodB at hb
  rw [hj] at hb
  simp only [Bool.and_eq_true, decide_eq_true_eq] at hb
  refine ⟨hb.1.1, fun i s hi hs he => ?_⟩
  obtain ⟨hil, hie⟩ := List.getElem?_eq_some_iff.1 hs
  exact idxB_take_some hil hi (by rw [hie]; simp [hasId, he]) hb.2
theorem clockOk_good {now : Int} {ts : List Timer} (h : clockOk now ts = true) : goodAll ts ts.length = true := by
  simp only [clockOk, Bool.and_eq_true] at h
  exact h.2.2
def without (ts : List Timer) (id : Int) : List Timer := ts.filter fun t => !hasId id t
def stopB (c : Clock) (id : Int) : Bool := clockOk c.Now c.Timers && c.Timers.any (hasId id)
def stopC (c : Clock) (id : Int) : Clock := match stopB c id with | true => ⟨c.Now, without c.Timers id⟩ | false => c
theorem stopC_yes {c : Clock} {id : Int} (h : stopB c id = true) : stopC c id = ⟨c.Now, without c.Timers id⟩ := by unfold stopC; rw [h]
theorem stopC_no {c : Clock} {id : Int} (h : stopB c id = false) : stopC c id = c := by unfold stopC; rw [h]
theorem timerOk_at {t : Timer} (h : timerOk t = true) : 0 ≤ t.At := by
  simp only [timerOk, Bool.and_eq_true] at h
  exact (withinB_iff.1 h.1).1
theorem timerAt_neg {c : Clock} {id : Int} : decide (timerAtF c.Now c.Timers id < 0) = !stopB c id := by
  unfold stopB
  cases hc : clockOk c.Now c.Timers
  · rw [timerAtF_bad hc]; rfl
  · rw [Bool.true_and]
    cases hf : c.Timers.find? (hasId id) with
    | none =>
      have h1 : c.Timers.any (hasId id) = false := by
        rw [List.any_eq_false]
        intro t ht
        have := List.find?_eq_none.1 hf t ht
        simpa using this
      rw [h1]
      have : timerAtF c.Now c.Timers id = -1 := by unfold timerAtF; rw [hf]; simp
      rw [this]; rfl
    | some t =>
      have h1 : c.Timers.any (hasId id) = true := List.any_eq_true.2 ⟨t, List.mem_of_find?_eq_some hf, List.find?_some hf⟩
      rw [h1]
      have h2 : timerAtF c.Now c.Timers id = t.At := by unfold timerAtF; rw [hf]; simp [hc]
      obtain ⟨j, hj, rfl⟩ := List.mem_iff_getElem.1 (List.mem_of_find?_eq_some hf)
      have h3 := timerOk_at (goodAll_at (clockOk_good hc) (List.getElem?_eq_getElem hj)).1
      rw [h2]
      simp
      omega
theorem idxB_neg {ts : List Timer} {id : Int} : decide (idxB (hasId id) ts < 0) = !ts.any (hasId id) := by
  unfold idxB
  cases hf : ts.findIdx? (hasId id) with
  | none =>
    have h1 : ts.any (hasId id) = false := by
      rw [List.any_eq_false]
      intro t ht
      have := List.findIdx?_eq_none_iff.1 hf t ht
      simpa using this
    rw [h1]; rfl
  | some i =>
    obtain ⟨hi, h2, _⟩ := List.findIdx?_eq_some_iff_getElem.1 hf
    have h1 : ts.any (hasId id) = true := List.any_eq_true.2 ⟨_, List.getElem_mem hi, h2⟩
    rw [h1]
    simp
/-- In a valid clock the first timer with an Id is the only one. -/
theorem erase_without {ts : List Timer} {id : Int} (h : goodAll ts ts.length = true) (ha : ts.any (hasId id) = true) : ∃ k : Nat, k < ts.length ∧ idxB (hasId id) ts = (k : Int) ∧ ts.take k ++ ts.drop (k + 1) = without ts id := by
  cases hf : ts.findIdx? (hasId id) with
  | none =>
    obtain ⟨t, ht, h1⟩ := List.any_eq_true.1 ha
    have := List.findIdx?_eq_none_iff.1 hf t ht
    rw [h1] at this; cases this
  | some k =>
    obtain ⟨hk, h2, h3⟩ := List.findIdx?_eq_some_iff_getElem.1 hf
    refine ⟨k, hk, by unfold idxB; rw [hf], ?_⟩
    have hid : (ts[k]'hk).Id = id := by simpa [hasId] using h2
    have e : ts = ts.take k ++ (ts[k]'hk :: ts.drop (k + 1)) := by rw [← List.drop_eq_getElem_cons hk, List.take_append_drop]
    have p1 : (ts.take k).filter (fun t => !hasId id t) = ts.take k := by
      rw [List.filter_eq_self]
      intro t ht
      obtain ⟨j, hj, rfl⟩ := List.mem_take_iff_getElem.1 ht
      have := h3 j (by omega)
      simpa using this
    have p2 : (ts.drop (k + 1)).filter (fun t => !hasId id t) = ts.drop (k + 1) := by
      rw [List.filter_eq_self]
      intro t ht
      obtain ⟨j, hj, rfl⟩ := List.mem_iff_getElem.1 ht
      rw [List.length_drop] at hj
      rw [List.getElem_drop]
      have hj' : k + 1 + j < ts.length := by omega
      have := (goodAll_at h (List.getElem?_eq_getElem hj')).2 k _ (by omega) (List.getElem?_eq_getElem hk)
      rw [hid] at this
      simp only [hasId, Bool.not_eq_true', beq_eq_false_iff_ne]
      exact fun e => this e.symm
    unfold without
    conv => rhs; rw [e]
    rw [List.filter_append, List.filter_cons, p1, p2, h2]
    rfl
theorem without_le (ts : List Timer) (id : Int) : (without ts id).length ≤ ts.length := List.length_filter_le _ _
theorem sz_TimerS (xs : List Timer) : szList TimerR xs = xs.length := by
  have key : ∀ ys : List Timer, (ys.map TimerR.sz).sum = 0 := by
    intro ys
    induction ys with
    | nil => rfl
    | cons y ys ih => rw [List.map_cons, List.sum_cons, ih]; rfl
  have := key xs
  unfold szList; omega
theorem stopC_sz (c : Clock) (id : Int) : ClockR.sz (stopC c id) ≤ ClockR.sz c := by
  cases h : stopB c id
  · rw [stopC_no h]; exact Nat.le_refl _
  · rw [stopC_yes h, sz_Clock, sz_Clock, sz_TimerS, sz_TimerS]; exact without_le _ _
end Go.Proofs.Ythahnaigdoiddaa

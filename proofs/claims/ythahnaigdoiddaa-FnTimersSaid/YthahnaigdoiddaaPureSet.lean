/- Setting a timer, as plain data; what keeps a clock valid. -/
import Derived.Test.YthahnaigdoiddaaPureAdv
set_option linter.unusedSimpArgs false
set_option linter.unusedVariables false
set_option maxRecDepth 20000
namespace Go.Proofs.Ythahnaigdoiddaa
open Go.RowKit
theorem goodB_iff {ts : List Timer} {k : Nat} {t : Timer} (ht : ts[k]? = some t) : goodB ts k = true ↔ timerOk t = true ∧ (∀ j s, k = j + 1 → ts[j]? = some s → cmpT s t < 0) ∧ idxB (hasId t.Id) (ts.take k) < 0 := by
  unfold goodB
  rw [ht]
  simp only [Bool.and_eq_true, decide_eq_true_eq, and_assoc]
  refine and_congr Iff.rfl (and_congr ?_ Iff.rfl)
  cases k with
  | zero => simp
  | succ j =>
    have hl := (List.getElem?_eq_some_iff.1 ht).1
    have hs := List.getElem?_eq_getElem (l := ts) (i := j) (by omega)
    generalize ts[j]'(by omega) = s at hs
    simp only [hs, decide_eq_true_eq]
    refine ⟨fun h j' s' e1 e2 => ?_, fun h => h j s rfl hs⟩
    obtain rfl : j = j' := by omega
    rw [hs] at e2
    obtain rfl : s = s' := by simpa using e2
    exact h
theorem idx_neg_iff {ts : List Timer} {id : Int} : idxB (hasId id) ts < 0 ↔ ∀ s ∈ ts, s.Id ≠ id := by
  have h := idxB_neg (ts := ts) (id := id)
  constructor
  · intro h1 s hs e
    rw [decide_eq_true h1] at h
    have h2 : ts.any (hasId id) = true := List.any_eq_true.2 ⟨s, hs, by simp [hasId, e]⟩
    rw [h2] at h; cases h
  · intro h1
    have h2 : ts.any (hasId id) = false := by
      rw [List.any_eq_false]
      intro s hs
      simpa [hasId] using h1 s hs
    rw [h2] at h
    simpa using h
theorem cmpT_trans {a b c : Timer} (h1 : cmpT a b < 0) (h2 : cmpT b c < 0) : cmpT a c < 0 := by
  rw [← decide_eq_true_eq (p := _ < _), ← aheadB_eq] at h1 h2 ⊢
  unfold aheadB at *
  simp only [Bool.or_eq_true, Bool.and_eq_true, decide_eq_true_eq, beq_iff_eq] at *
  omega
/-- When a list of timers is good: each is valid, they stand in order, and no Id stands twice. -/
theorem good_iff (ts : List Timer) : goodAll ts ts.length = true ↔ (∀ t ∈ ts, timerOk t = true) ∧ ts.Pairwise (fun s t => cmpT s t < 0) ∧ ts.Pairwise (fun s t => s.Id ≠ t.Id) := by
  constructor
  · intro h
    refine ⟨fun t ht => ?_, ?_, ?_⟩
    · obtain ⟨j, hj, rfl⟩ := List.mem_iff_getElem.1 ht
      exact (goodAll_at h (List.getElem?_eq_getElem hj)).1
    · rw [List.pairwise_iff_getElem]
      have key : ∀ (d i : Nat) (s t : Timer), ts[i]? = some s → ts[i + d + 1]? = some t → cmpT s t < 0 := by
        intro d
        induction d with
        | zero => intro i s t hs ht; exact good_step h hs ht
        | succ d ih =>
          intro i s t hs ht
          have hl := (List.getElem?_eq_some_iff.1 ht).1
          have hu := List.getElem?_eq_getElem (l := ts) (i := i + d + 1) (by omega)
          exact cmpT_trans (ih i s _ hs hu) (good_step h hu ht)
      intro i j hi hj hij
      obtain ⟨d, rfl⟩ : ∃ d, j = i + d + 1 := ⟨j - i - 1, by omega⟩
      exact key d i _ _ (List.getElem?_eq_getElem hi) (List.getElem?_eq_getElem hj)
    · rw [List.pairwise_iff_getElem]
      intro i j hi hj hij
      exact (goodAll_at h (List.getElem?_eq_getElem hj)).2 i _ hij (List.getElem?_eq_getElem hi)
  · rintro ⟨h1, h2, h3⟩
    rw [List.pairwise_iff_getElem] at h2 h3
    simp only [goodAll, List.all_eq_true]
    intro k hk
    have hk := List.mem_range.1 hk
    have ht := List.getElem?_eq_getElem (l := ts) (i := k) hk
    rw [goodB_iff ht]
    refine ⟨h1 _ (List.getElem_mem hk), fun j s e hs => ?_, idx_neg_iff.2 fun s hs => ?_⟩
    · subst e
      obtain ⟨hj, rfl⟩ := List.getElem?_eq_some_iff.1 hs
      exact h2 j (j + 1) hj hk (by omega)
    · obtain ⟨j, hj, rfl⟩ := List.mem_take_iff_getElem.1 hs
      exact h3 j k (by omega) hk (by omega)
theorem clockOk_iff {now : Int} {ts : List Timer} : clockOk now ts = true ↔ withinB now 0 1000000000 = true ∧ ts.length ≤ 300 ∧ (∀ t ∈ ts, timerOk t = true) ∧ ts.Pairwise (fun s t => cmpT s t < 0) ∧ ts.Pairwise (fun s t => s.Id ≠ t.Id) := by
  unfold clockOk
  rw [Bool.and_eq_true, Bool.and_eq_true, decide_eq_true_eq, good_iff]
/-- What is left of a valid clock's timers is valid. -/
theorem clockOk_sub {now now' : Int} {ts us : List Timer} (h : clockOk now ts = true) (hs : us.Sublist ts) (hn : withinB now' 0 1000000000 = true) : clockOk now' us = true := by
  rw [clockOk_iff] at h ⊢
  obtain ⟨_, h2, h3, h4, h5⟩ := h
  exact ⟨hn, Nat.le_trans hs.length_le h2, fun t ht => h3 t (hs.subset ht), h4.sublist hs, h5.sublist hs⟩
/-- Where a timer goes in. -/
def insAt (ts : List Timer) (t : Timer) : Nat := (ts.takeWhile fun s => !aheadB t s).length
def insT (ts : List Timer) (t : Timer) : List Timer := ts.take (insAt ts t) ++ t :: ts.drop (insAt ts t)
def setL (c : Clock) (id at_ : Int) : List Timer := insT (without c.Timers id) ⟨at_, id⟩
def setB (c : Clock) (id at_ : Int) : Bool := clockOk c.Now c.Timers && decide (c.Now ≤ at_) && clockOk c.Now (setL c id at_)
def setC (c : Clock) (id at_ : Int) : Clock := match setB c id at_ with | true => ⟨c.Now, setL c id at_⟩ | false => c
theorem setC_yes {c : Clock} {id at_ : Int} (h : setB c id at_ = true) : setC c id at_ = ⟨c.Now, setL c id at_⟩ := by unfold setC; rw [h]
theorem setC_no {c : Clock} {id at_ : Int} (h : setB c id at_ = false) : setC c id at_ = c := by unfold setC; rw [h]
theorem insAt_le (ts : List Timer) (t : Timer) : insAt ts t ≤ ts.length := by
  unfold insAt
  exact (List.takeWhile_sublist _).length_le
theorem insT_len (ts : List Timer) (t : Timer) : (insT ts t).length = ts.length + 1 := by
  have := insAt_le ts t
  unfold insT
  rw [List.length_append, List.length_cons, List.length_take, List.length_drop]
  omega
theorem take_tw {α : Type} (p : α → Bool) (xs : List α) : xs.take (xs.takeWhile p).length = xs.takeWhile p := by
  induction xs with
  | nil => rfl
  | cons x xs ih =>
    rw [List.takeWhile_cons]
    cases p x
    · simp
    · simp [ih]
theorem tw_all {α : Type} (p : α → Bool) (xs : List α) : ∀ x ∈ xs.takeWhile p, p x = true := by
  induction xs with
  | nil => simp
  | cons y xs ih =>
    rw [List.takeWhile_cons]
    cases h : p y
    · simp
    · simp only [if_true]
      intro x hx
      rcases List.mem_cons.1 hx with rfl | hx
      · exact h
      · exact ih x hx
theorem tw_next {α : Type} (p : α → Bool) (xs : List α) : ∀ x, xs[(xs.takeWhile p).length]? = some x → p x = false := by
  induction xs with
  | nil => simp
  | cons y xs ih =>
    rw [List.takeWhile_cons]
    cases h : p y
    · intro x hx
      simp at hx
      rw [← hx]; exact h
    · intro x hx
      simp only [if_true, List.length_cons, List.getElem?_cons_succ] at hx
      exact ih x hx
theorem ins_take (ts : List Timer) (t : Timer) : ∀ s ∈ ts.take (insAt ts t), aheadB t s = false := by
  intro s hs
  unfold insAt at hs
  rw [take_tw] at hs
  simpa using tw_all _ _ s hs
theorem ins_next (ts : List Timer) (t : Timer) {s : Timer} (h : ts[insAt ts t]? = some s) : aheadB t s = true := by
  unfold insAt at h
  simpa using tw_next _ _ s h
end Go.Proofs.Ythahnaigdoiddaa

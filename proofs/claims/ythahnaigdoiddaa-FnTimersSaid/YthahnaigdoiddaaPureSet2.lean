/- Setting a timer, as plain data: when it is done; the lists while a timer is being put in. -/
import Derived.Test.YthahnaigdoiddaaPureSet
set_option linter.unusedSimpArgs false
set_option linter.unusedVariables false
set_option maxRecDepth 20000
namespace Go.Proofs.Ythahnaigdoiddaa
open Go.RowKit
theorem ahead_total {a b : Timer} (h : aheadB b a = false) (hne : a.Id ≠ b.Id) : aheadB a b = true := by
  unfold aheadB at *
  simp only [Bool.or_eq_false_iff, Bool.and_eq_false_iff, decide_eq_false_iff_not, beq_eq_false_iff_ne, Bool.or_eq_true, Bool.and_eq_true, decide_eq_true_eq, beq_iff_eq] at *
  omega
theorem ahead_lt {a b : Timer} : aheadB a b = true ↔ cmpT a b < 0 := by rw [aheadB_eq, decide_eq_true_eq]
theorem mem_insT {ts : List Timer} {t x : Timer} : x ∈ insT ts t ↔ x = t ∨ x ∈ ts := by
  unfold insT
  rw [List.mem_append, List.mem_cons]
  constructor
  · rintro (h | h | h)
    · exact .inr (List.mem_of_mem_take h)
    · exact .inl h
    · exact .inr (List.mem_of_mem_drop h)
  · rintro (h | h)
    · exact .inr (.inl h)
    · rw [← List.take_append_drop (insAt ts t) ts] at h
      rcases List.mem_append.1 h with h | h
      · exact .inl h
      · exact .inr (.inr h)
theorem ins_drop {ts : List Timer} {t : Timer} (hs : ts.Pairwise (fun s t => cmpT s t < 0)) : ∀ x ∈ ts.drop (insAt ts t), aheadB t x = true := by
  intro x hx
  obtain ⟨j, hj, rfl⟩ := List.mem_iff_getElem.1 hx
  rw [List.length_drop] at hj
  rw [List.getElem_drop]
  have h0 := ins_next ts t (List.getElem?_eq_getElem (l := ts) (i := insAt ts t) (by omega))
  rcases Nat.eq_zero_or_pos j with rfl | hj0
  · exact h0
  · rw [ahead_lt] at h0 ⊢
    rw [List.pairwise_iff_getElem] at hs
    exact cmpT_trans h0 (hs (insAt ts t) (insAt ts t + j) (by omega) (by omega) (by omega))
theorem insT_ok {now : Int} {ts : List Timer} {t : Timer} (h : clockOk now ts = true) (hid : ∀ s ∈ ts, s.Id ≠ t.Id) : clockOk now (insT ts t) = (timerOk t && decide (ts.length + 1 ≤ 300)) := by
  have h' := clockOk_iff.1 h
  obtain ⟨h1, h2, h3, h4, h5⟩ := h'
  rw [Bool.eq_iff_iff, clockOk_iff, Bool.and_eq_true, decide_eq_true_eq, insT_len]
  constructor
  · rintro ⟨_, q2, q3, _, _⟩
    exact ⟨q3 t (mem_insT.2 (.inl rfl)), q2⟩
  · rintro ⟨q1, q2⟩
    refine ⟨h1, q2, fun x hx => ?_, ?_, ?_⟩
    · rcases mem_insT.1 hx with rfl | hx
      · exact q1
      · exact h3 x hx
    · unfold insT
      have e := h4
      rw [← List.take_append_drop (insAt ts t) ts, List.pairwise_append] at e
      rw [List.pairwise_append, List.pairwise_cons]
      refine ⟨e.1, ⟨fun x hx => ahead_lt.1 (ins_drop h4 x hx), e.2.1⟩, fun a ha b hb => ?_⟩
      rcases List.mem_cons.1 hb with rfl | hb
      · exact ahead_lt.1 (ahead_total (ins_take ts b a ha) (hid a (List.mem_of_mem_take ha)))
      · exact e.2.2 a ha b hb
    · unfold insT
      have e := h5
      rw [← List.take_append_drop (insAt ts t) ts, List.pairwise_append] at e
      rw [List.pairwise_append, List.pairwise_cons]
      refine ⟨e.1, ⟨fun x hx => fun e2 => hid x (List.mem_of_mem_drop hx) e2.symm, e.2.1⟩, fun a ha b hb => ?_⟩
      rcases List.mem_cons.1 hb with rfl | hb
      · exact hid a (List.mem_of_mem_take ha)
      · exact e.2.2 a ha b hb
theorem without_sub (ts : List Timer) (id : Int) : (without ts id).Sublist ts := List.filter_sublist
theorem without_ids {ts : List Timer} {id : Int} : ∀ s ∈ without ts id, s.Id ≠ id := by
  intro s hs
  have := (List.mem_filter.1 hs).2
  simpa [hasId] using this
theorem clock_now {now : Int} {ts : List Timer} (h : clockOk now ts = true) : withinB now 0 1000000000 = true := (clockOk_iff.1 h).1
theorem set_ok {c : Clock} {id at_ : Int} (h : clockOk c.Now c.Timers = true) : clockOk c.Now (setL c id at_) = (timerOk ⟨at_, id⟩ && decide ((without c.Timers id).length + 1 ≤ 300)) :=
  insT_ok (clockOk_sub h (without_sub _ _) (clock_now h)) (fun s hs => without_ids s hs)
theorem without_all {ts : List Timer} {id : Int} (h : idxB (hasId id) ts < 0) : without ts id = ts := by
  rw [idx_neg_iff] at h
  unfold without
  rw [List.filter_eq_self]
  intro s hs
  simpa [hasId] using h s hs
/-- The state while a timer is being put in: behind k of the others. -/
def insK (ts : List Timer) (t : Timer) (k : Nat) : List Timer := match decide (insAt ts t < k) with
  | true => ts.take (insAt ts t) ++ t :: (ts.take k).drop (insAt ts t)
  | false => ts.take k
theorem insK_zero (ts : List Timer) (t : Timer) : insK ts t 0 = [] := by unfold insK; rw [decide_eq_false (by omega)]; rfl
theorem insK_before {ts : List Timer} {t s : Timer} {k : Nat} (hs : ts[k]? = some s) (h : k < insAt ts t) : insK ts t (k + 1) = insK ts t k ++ [s] := by
  unfold insK
  rw [decide_eq_false (by omega : ¬ insAt ts t < k + 1), decide_eq_false (by omega : ¬ insAt ts t < k)]
  exact take_snoc hs
theorem insK_at {ts : List Timer} {t s : Timer} {k : Nat} (hs : ts[k]? = some s) (h : k = insAt ts t) : insK ts t (k + 1) = insK ts t k ++ [t] ++ [s] := by
  have hk := (List.getElem?_eq_some_iff.1 hs).1
  unfold insK
  rw [decide_eq_true (by omega : insAt ts t < k + 1), decide_eq_false (by omega : ¬ insAt ts t < k), ← h]
  simp only [List.append_assoc, List.cons_append, List.nil_append]
  congr 2
  rw [take_snoc hs, List.drop_append_of_le_length (by rw [List.length_take]; omega), List.drop_of_length_le (by rw [List.length_take]; omega)]
  rfl
theorem insK_behind {ts : List Timer} {t s : Timer} {k : Nat} (hs : ts[k]? = some s) (h : insAt ts t < k) : insK ts t (k + 1) = insK ts t k ++ [s] := by
  have hk := (List.getElem?_eq_some_iff.1 hs).1
  unfold insK
  rw [decide_eq_true (by omega : insAt ts t < k + 1), decide_eq_true h]
  simp only [List.append_assoc, List.cons_append]
  congr 2
  rw [take_snoc hs, List.drop_append_of_le_length (by rw [List.length_take]; omega)]
theorem insK_end_put {ts : List Timer} {t : Timer} (h : insAt ts t < ts.length) : insK ts t ts.length = insT ts t := by
  unfold insK insT
  rw [decide_eq_true h, List.take_of_length_le (Nat.le_refl _)]
theorem insK_end_not {ts : List Timer} {t : Timer} (h : ¬ insAt ts t < ts.length) : insK ts t ts.length ++ [t] = insT ts t := by
  have := insAt_le ts t
  have e : insAt ts t = ts.length := by omega
  unfold insK insT
  rw [decide_eq_false h, e, List.take_of_length_le (Nat.le_refl _), List.drop_of_length_le (Nat.le_refl _)]
theorem insK_len (ts : List Timer) (t : Timer) (k : Nat) : (insK ts t k).length ≤ k + 1 := by
  unfold insK
  cases h : decide (insAt ts t < k)
  · simp; omega
  · have := of_decide_eq_true h
    simp; omega
theorem insK_len_not {ts : List Timer} {t : Timer} {k : Nat} (h : ¬ insAt ts t < k) : (insK ts t k).length ≤ k := by
  unfold insK
  rw [decide_eq_false h]
  exact (List.length_take_le _ _)
theorem setC_len (c : Clock) (id at_ : Int) : (setC c id at_).Timers.length ≤ c.Timers.length + 1 := by
  cases hb : setB c id at_
  · rw [setC_no hb]; omega
  · rw [setC_yes hb]
    show (setL c id at_).length ≤ _
    unfold setL
    rw [insT_len]
    have := without_le c.Timers id
    omega
theorem ahead_at {ts : List Timer} {t s : Timer} {k : Nat} (hs : ts[k]? = some s) (h : k ≤ insAt ts t) : aheadB t s = decide (k = insAt ts t) := by
  rcases Nat.lt_or_ge k (insAt ts t) with h1 | h1
  · rw [decide_eq_false (by omega)]
    refine ins_take ts t s ?_
    rw [List.mem_take_iff_getElem]
    obtain ⟨hk, rfl⟩ := List.getElem?_eq_some_iff.1 hs
    exact ⟨k, by omega, rfl⟩
  · obtain rfl : k = insAt ts t := by omega
    rw [decide_eq_true rfl]
    exact ins_next ts t hs
end Go.Proofs.Ythahnaigdoiddaa

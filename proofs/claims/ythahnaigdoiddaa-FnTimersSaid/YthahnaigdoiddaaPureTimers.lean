/- What FnTimers says of clocks, as plain data. -/
import Derived.Test.YthahnaigdoiddaaPurePlay
set_option linter.unusedSimpArgs false
set_option linter.unusedVariables false
set_option maxRecDepth 20000
namespace Go.Proofs.Ythahnaigdoiddaa
open Go.RowKit
theorem at_uniq {now : Int} {ts : List Timer} {s : Timer} (h : clockOk now ts = true) (hs : s ∈ ts) : timerAtF now ts s.Id = s.At := by
  have hp := (clockOk_iff.1 h).2.2.2.2
  unfold timerAtF
  rw [if_pos h]
  cases hf : ts.find? (hasId s.Id) with
  | none =>
    have := List.find?_eq_none.1 hf s hs
    simp [hasId] at this
  | some t =>
    have h1 := List.mem_of_find?_eq_some hf
    have h2 : t.Id = s.Id := by simpa [hasId] using List.find?_some hf
    obtain ⟨i, hi, rfl⟩ := List.mem_iff_getElem.1 h1
    obtain ⟨j, hj, rfl⟩ := List.mem_iff_getElem.1 hs
    rw [List.pairwise_iff_getElem] at hp
    rcases Nat.lt_trichotomy i j with h3 | h3 | h3
    · exact absurd h2 (hp i j hi hj h3)
    · subst h3; rfl
    · exact absurd h2.symm (hp j i hj hi h3)
theorem at_gone {now : Int} {ts : List Timer} {id : Int} (h : ∀ t ∈ ts, t.Id ≠ id) : timerAtF now ts id = -1 :=
  timerAtF_none fun j hj => by
    have := h _ (List.getElem_mem hj)
    simpa [hasId] using this
theorem set_at {c : Clock} {id at_ : Int} (h : setB c id at_ = true) : timerAtF (setC c id at_).Now (setC c id at_).Timers id = at_ := by
  rw [setC_yes h]
  unfold setB at h
  simp only [Bool.and_eq_true] at h
  have hm : (⟨at_, id⟩ : Timer) ∈ setL c id at_ := by
    unfold setL insT
    exact List.mem_append_right _ (List.mem_cons_self ..)
  exact at_uniq (s := ⟨at_, id⟩) h.2 hm
theorem stop_at (c : Clock) (id : Int) (h : clockOk c.Now c.Timers = true) : timerAtF (stopC c id).Now (stopC c id).Timers id = -1 := by
  refine at_gone fun t ht he => ?_
  cases hb : stopB c id
  · rw [stopC_no hb] at ht
    unfold stopB at hb
    rw [h, Bool.true_and, List.any_eq_false] at hb
    exact hb t ht (by simp [hasId, he])
  · rw [stopC_yes hb] at ht
    have := (List.mem_filter.1 ht).2
    simp [hasId, he] at this
theorem adv_may {c : Clock} {now : Int} (h : clockOk c.Now c.Timers = true) (h1 : c.Now ≤ now) (h2 : now ≤ 1000000000) : advB c now = true := by
  unfold advB
  rw [h, Bool.true_and]
  exact withinB_iff.2 ⟨h1, h2⟩
theorem adv_due {c : Clock} {now : Int} (h : clockOk c.Now c.Timers = true) (h1 : c.Now ≤ now) (h2 : now ≤ 1000000000) : ((advI c now).length : Int) = dueByF c.Now c.Timers now := by
  rw [(adv_yes (adv_may h h1 h2)).2]
  unfold advIds dueByF countDue
  rw [if_pos h, List.length_map, List.countP_eq_length_filter]
  rfl
/-- The end of the last timer ahead of the number j in the list of those that came due. -/
def lastA (c : Clock) (now : Int) (j : Nat) : Int := match j with
  | 0 => -1
  | j + 1 => match (c.Timers.filter (dueB now))[j]? with | some t => t.At | none => -1
theorem lastA_at {c : Clock} {now : Int} {j : Nat} (hj : j < (c.Timers.filter (dueB now)).length) : lastA c now (j + 1) = ((c.Timers.filter (dueB now))[j]'hj).At := by
  show (match (c.Timers.filter (dueB now))[j]? with | some t => t.At | none => -1) = _
  rw [List.getElem?_eq_getElem hj]
theorem adv_told {c : Clock} {now : Int} (h : clockOk c.Now c.Timers = true) {j : Nat} (hj : j < (advI c now).length) :
    timerAtF c.Now c.Timers (advI c now)[j] = lastA c now (j + 1) ∧ lastA c now j ≤ lastA c now (j + 1) ∧ lastA c now (j + 1) ≤ now ∧ timerAtF (advC c now).Now (advC c now).Timers (advI c now)[j] = -1 := by
  cases hb : advB c now
  · exfalso
    rw [(adv_no hb).2] at hj
    simp at hj
  · have e1 := (adv_yes hb).1
    have e2 := (adv_yes hb).2
    have hj' : j < (c.Timers.filter (dueB now)).length := by rw [e2] at hj; unfold advIds at hj; simpa using hj
    have hg : (advI c now)[j] = ((c.Timers.filter (dueB now))[j]'hj').Id := by
      have : ∀ (l : List Int) (hl : advI c now = l) (hjl : j < l.length), (advI c now)[j] = l[j] := by intro l hl hjl; subst hl; rfl
      rw [this _ e2 (by rw [← e2]; exact hj)]
      unfold advIds
      rw [List.getElem_map]
    have hmem := List.mem_filter.1 (List.getElem_mem hj')
    have hl1 : lastA c now (j + 1) = ((c.Timers.filter (dueB now))[j]'hj').At := lastA_at hj'
    have hdue : ((c.Timers.filter (dueB now))[j]'hj').At ≤ now := by simpa [dueB] using hmem.2
    have hok := clockOk_iff.1 h
    refine ⟨by rw [hg, hl1]; exact at_uniq h hmem.1, ?_, by rw [hl1]; exact hdue, ?_⟩
    · rw [hl1]
      cases j with
      | zero =>
        have := timerOk_at (hok.2.2.1 _ hmem.1)
        show (-1 : Int) ≤ _
        omega
      | succ i =>
        have hi : i < (c.Timers.filter (dueB now)).length := by omega
        have : lastA c now (i + 1) = ((c.Timers.filter (dueB now))[i]'hi).At := lastA_at hi
        rw [this]
        have hp := (hok.2.2.2.1).sublist (List.filter_sublist (p := dueB now))
        rw [List.pairwise_iff_getElem] at hp
        exact cmpT_at (hp i (i + 1) hi hj' (by omega))
    · refine at_gone fun t ht he => ?_
      rw [e1] at ht
      have ht2 := List.mem_filter.1 ht
      rw [hg] at he
      have h5 : t = (c.Timers.filter (dueB now))[j]'hj' := by
        have hp := hok.2.2.2.2
        rw [List.pairwise_iff_getElem] at hp
        obtain ⟨a, ha, ea⟩ := List.mem_iff_getElem.1 ht2.1
        obtain ⟨b, hb2, eb⟩ := List.mem_iff_getElem.1 hmem.1
        rw [← ea, ← eb] at he
        rcases Nat.lt_trichotomy a b with h3 | h3 | h3
        · exact absurd he (hp a b ha hb2 h3)
        · subst h3; rw [← ea, ← eb]
        · exact absurd he.symm (hp b a hb2 ha h3)
      have h6 := ht2.2
      rw [h5, hmem.2] at h6
      cases h6
theorem adv_next {c : Clock} {now : Int} (h : clockOk c.Now c.Timers = true) (h1 : c.Now ≤ now) (h2 : now ≤ 1000000000) (h3 : 0 ≤ nextDueF (advC c now).Now (advC c now).Timers) : ¬ nextDueF (advC c now).Now (advC c now).Timers ≤ (advC c now).Now := by
  have hb := adv_may h h1 h2
  have hok := advC_ok now h
  rw [(adv_yes hb).1] at h3 hok ⊢
  unfold nextDueF at h3 ⊢
  rw [if_pos hok] at h3 ⊢
  cases hl : advT c.Timers now with
  | nil => rw [hl] at h3; simp at h3
  | cons t l =>
    have hm : t ∈ advT c.Timers now := by rw [hl]; exact List.mem_cons_self ..
    have := (List.mem_filter.1 hm).2
    simp [dueB] at this
    simp only
    omega
theorem lastA_zero (c : Clock) (now : Int) : lastA c now 0 = -1 := rfl
end Go.Proofs.Ythahnaigdoiddaa

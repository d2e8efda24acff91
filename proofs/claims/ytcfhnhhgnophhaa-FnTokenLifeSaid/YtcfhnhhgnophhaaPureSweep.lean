/- What FnSweep says of forests, as plain data. -/
import Derived.Test.YtcfhnhhgnophhaaSweep
set_option linter.unusedSimpArgs false
set_option linter.unusedVariables false
set_option maxRecDepth 20000
namespace Go.Proofs.Ytcfhnhhgnophhaa
open Go.RowKit
theorem okAll_of {α : Type} {ok : α → Bool} {lt : α → α → Bool} {xs : List α} (h1 : ∀ t ∈ xs, ok t = true) (h2 : xs.Pairwise (fun s t => lt s t = true)) : okAll ok lt xs xs.length = true := by
  unfold okAll
  rw [List.all_eq_true]
  intro k hk
  have hk := List.mem_range.1 hk
  have ht := List.getElem?_eq_getElem hk
  by_cases h0 : 0 < k
  · rw [okAt_next h0 ht (List.getElem?_eq_getElem (by omega)), h1 _ (List.getElem_mem hk), Bool.true_and]
    rw [List.pairwise_iff_getElem] at h2
    exact h2 _ _ (by omega) hk (by omega)
  · rw [okAt_first h0 ht]
    exact h1 _ (List.getElem_mem hk)
theorem forest_pair {ts : List Token} (hf : forestOk ts = true) : ts.Pairwise (fun s t => idLt s t = true) := by
  rw [List.pairwise_iff_getElem]
  intro i j hi hj h
  unfold idLt
  rw [decide_eq_true_eq]
  exact forest_lt hf (List.getElem?_eq_getElem hi) (List.getElem?_eq_getElem hj) h
theorem forest_in {ts : List Token} (hf : forestOk ts = true) {t : Token} (ht : t ∈ ts) : inForest ts t = true := by
  obtain ⟨i, hi, rfl⟩ := List.mem_iff_getElem.1 ht
  exact okAll_get (forestOk_all hf) hi (List.getElem?_eq_getElem hi)
/-- The ids that are added from the number k on belong to tokens from k on. -/
theorem wFold_tail {p : Token → Bool} {ts : List Token} (k : Nat) : ∀ n, k + n ≤ ts.length → ∃ R, (wFold p (ts.take (k + n))).2 = (wFold p (ts.take k)).2 ++ R ∧ ∀ y ∈ R, ∃ j s, k ≤ j ∧ ts[j]? = some s ∧ s.Id = y
  | 0, _ => ⟨[], by simp, by simp⟩
  | n + 1, h => by
    obtain ⟨R, h1, h2⟩ := wFold_tail (p := p) (ts := ts) k n (by omega)
    have ht := List.getElem?_eq_getElem (l := ts) (i := k + n) (by omega)
    rw [show k + (n + 1) = k + n + 1 by omega, wFold_snoc ht]
    cases hp : (p (ts[k + n]'(by omega)) || hasB (wFold p (ts.take (k + n))).2 (ts[k + n]'(by omega)).Parent)
    · rw [wStep_kept hp]
      exact ⟨R, h1, h2⟩
    · rw [wStep_gone hp, h1, List.append_assoc]
      refine ⟨R ++ [_], rfl, fun y hy => ?_⟩
      rcases List.mem_append.1 hy with h3 | h3
      · exact h2 y h3
      · rw [List.mem_singleton.1 h3]
        exact ⟨k + n, _, by omega, ht, rfl⟩
theorem hasB_append (xs ys : List Int) (x : Int) : hasB (xs ++ ys) x = (hasB xs x || hasB ys x) := by unfold hasB; rw [List.any_append]
/-- A token goes if it is to go, or if its parent goes. -/
theorem wFold_closed {p : Token → Bool} {ts : List Token} (hf : forestOk ts = true) {k : Nat} {t : Token} (ht : ts[k]? = some t) : hasB (wFold p ts).2 t.Id = (p t || hasB (wFold p ts).2 t.Parent) := by
  have hk := (List.getElem?_eq_some_iff.1 ht).1
  obtain ⟨h1, h2, h3, h4, h5⟩ := forest_tok hf ht
  obtain ⟨R, e, hR⟩ := wFold_tail (p := p) (ts := ts) k (ts.length - k) (by omega)
  rw [show k + (ts.length - k) = ts.length by omega, List.take_length] at e
  obtain ⟨R', e', hR'⟩ := wFold_tail (p := p) (ts := ts) (k + 1) (ts.length - (k + 1)) (by omega)
  rw [show k + 1 + (ts.length - (k + 1)) = ts.length by omega, List.take_length] at e'
  have hpar : hasB (wFold p ts).2 t.Parent = hasB (wFold p (ts.take k)).2 t.Parent := by
    rw [e, hasB_append]
    have : hasB R t.Parent = false := by
      cases hh : hasB R t.Parent
      · rfl
      · obtain ⟨j, s, hj, hs, hid⟩ := hR _ (hasB_mem.1 hh)
        rcases Nat.eq_or_lt_of_le hj with h6 | h6
        · subst h6; rw [ht] at hs; cases hs; omega
        · have := forest_lt hf ht hs h6; omega
    rw [this, Bool.or_false]
  have hidq : hasB (wFold p ts).2 t.Id = hasB (wFold p (ts.take (k + 1))).2 t.Id := by
    rw [e', hasB_append]
    have : hasB R' t.Id = false := by
      cases hh : hasB R' t.Id
      · rfl
      · obtain ⟨j, s, hj, hs, hid⟩ := hR' _ (hasB_mem.1 hh)
        have := forest_lt hf ht hs (by omega); omega
    rw [this, Bool.or_false]
  have hnew := wFold_new (p := p) hf ht
  rw [hidq, hpar, wFold_snoc ht]
  cases hp : (p t || hasB (wFold p (ts.take k)).2 t.Parent)
  · rw [wStep_kept hp]; exact hnew
  · rw [wStep_gone hp, hasB_append]
    have : hasB [t.Id] t.Id = true := by unfold hasB; simp
    rw [this, Bool.or_true]
theorem lessT_mem {ts : List Token} {gone : List Int} {t : Token} (h : t ∈ lessT ts gone) : t ∈ ts ∧ hasB gone t.Id = false := by
  have := List.mem_filter.1 h
  exact ⟨this.1, by simpa using this.2⟩
theorem mem_lessT {ts : List Token} {gone : List Int} {t : Token} (h : t ∈ ts) (hg : hasB gone t.Id = false) : t ∈ lessT ts gone := List.mem_filter.2 ⟨h, by simp [hg]⟩
/-- What a closed set leaves is a valid forest. -/
theorem less_ok {ts : List Token} (hf : forestOk ts = true) {gone : List Int} (hc : ∀ t ∈ ts, hasB gone t.Id = false → hasB gone t.Parent = false) : forestOk (lessT ts gone) = true := by
  unfold forestOk
  rw [Bool.and_eq_true, decide_eq_true_eq]
  refine ⟨Nat.le_trans (lessT_len ts gone) (forestOk_len hf), okAll_of (fun t ht => ?_) ((forest_pair hf).sublist List.filter_sublist)⟩
  obtain ⟨h1, h2⟩ := lessT_mem ht
  have h3 := forest_in hf h1
  unfold inForest at h3 ⊢
  rw [Bool.and_eq_true] at h3 ⊢
  refine ⟨h3.1, ?_⟩
  have h4 := h3.2
  unfold parentOk at h4 ⊢
  cases h0 : t.Parent == 0
  · rw [h0, Bool.false_or, decide_eq_true_eq] at h4
    obtain ⟨i, s, e1, e2, e3⟩ := tok_at h4
    have hs : s ∈ lessT ts gone := mem_lessT (List.mem_of_getElem? e2) (by rw [e3]; exact hc t h1 h2)
    obtain ⟨j, hj, rfl⟩ := List.mem_iff_getElem.1 hs
    rw [Bool.false_or, decide_eq_true_eq, ← e3]
    exact idxT_mem (List.getElem?_eq_getElem hj)
  · rfl
theorem sweep_len {ts : List Token} {now : Int} (hf : forestOk ts = true) : (sweepT ts now).length + (sweepI ts now).length = ts.length := by
  rw [(sweep_ok hf).1, (sweep_ok hf).2]
  have := wFold_len (overP now) ts ([], [])
  simpa [wFold] using this
theorem sweep_closed {ts : List Token} {now : Int} (hf : forestOk ts = true) {t : Token} (ht : t ∈ ts) : hasB (sweepI ts now) t.Id = (overP now t || hasB (sweepI ts now) t.Parent) := by
  obtain ⟨i, hi, rfl⟩ := List.mem_iff_getElem.1 ht
  rw [(sweep_ok hf).2]
  exact wFold_closed hf (List.getElem?_eq_getElem hi)
theorem sweep_left {ts : List Token} {now : Int} (hf : forestOk ts = true) {t : Token} (ht : t ∈ sweepT ts now) : overP now t = false ∧ hasB (sweepI ts now) t.Id = false ∧ hasB (sweepI ts now) t.Parent = false := by
  rw [sweep_less hf] at ht
  obtain ⟨h1, h2⟩ := lessT_mem ht
  have h3 := sweep_closed (now := now) hf h1
  rw [h2] at h3
  have h4 : (overP now t || hasB (sweepI ts now) t.Parent) = false := h3.symm
  rw [Bool.or_eq_false_iff] at h4
  exact ⟨h4.1, h2, h4.2⟩
theorem sweep_valid {ts : List Token} {now : Int} (hf : forestOk ts = true) : forestOk (sweepT ts now) = true := by
  rw [sweep_less hf]
  refine less_ok hf (fun t ht h2 => ?_)
  have h3 := sweep_closed (now := now) hf ht
  rw [h2] at h3
  have h4 : (overP now t || hasB (sweepI ts now) t.Parent) = false := h3.symm
  rw [Bool.or_eq_false_iff] at h4
  exact h4.2
theorem sweep_gone {ts : List Token} {now : Int} (hf : forestOk ts = true) {x : Int} (hx : x ∈ sweepI ts now) : findOk ts x = true ∧ (overP now (findTok ts x) || hasB (sweepI ts now) (findTok ts x).Parent) = true := by
  have hx' := hx
  rw [(sweep_ok hf).2, ← List.take_length (l := ts)] at hx'
  obtain ⟨j, s, hj, hs, hid⟩ := wFold_ids ts.length x hx'
  subst hid
  have hi := idxT_self hf hs
  refine ⟨findOk_at hf hi, ?_⟩
  rw [findTok_at hf hi hs, ← sweep_closed hf (List.mem_of_getElem? hs)]
  exact hasB_mem.2 hx
theorem wFold_none {p : Token → Bool} : ∀ (ts us : List Token), (∀ t ∈ ts, p t = false) → (ts.foldl (wStep p) (us, [])).2 = []
  | [], _, _ => rfl
  | t :: ts, us, h => by
    rw [List.foldl_cons, wStep_kept (by rw [h t (List.mem_cons_self ..)]; rfl)]
    exact wFold_none ts _ (fun s hs => h s (List.mem_cons_of_mem _ hs))
theorem sweep_again {ts : List Token} {now : Int} (hf : forestOk ts = true) : sweepI (sweepT ts now) now = [] := by
  rw [(sweep_ok (sweep_valid hf)).2]
  exact wFold_none _ [] (fun t ht => (sweep_left hf ht).1)
end Go.Proofs.Ytcfhnhhgnophhaa

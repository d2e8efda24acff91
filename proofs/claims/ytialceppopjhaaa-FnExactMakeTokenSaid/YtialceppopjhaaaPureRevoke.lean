/- Revoking and sweeping: plain data; both ways answer alike. -/
import Derived.Test.YtialceppopjhaaaPureAlone
import Derived.Test.YtialceppopjhaaaLate
set_option linter.unusedSimpArgs false
set_option linter.unusedVariables false
namespace Go.Proofs.Ytialceppopjhaaa
open Go.RowKit
theorem hasB_snoc (xs : List Int) (y x : Int) : hasB (xs ++ [y]) x = (hasB xs x || (y == x)) := by unfold hasB; rw [List.any_append]; simp
theorem wFold_ids {p : Token → Bool} {ts : List Token} : ∀ k, ∀ y ∈ (wFold p (ts.take k)).2, ∃ j s, j < k ∧ ts[j]? = some s ∧ s.Id = y
  | 0, y, h => by simp [wFold] at h
  | k + 1, y, h => by
    cases ht : ts[k]? with
    | none =>
      rw [List.take_of_length_le (Nat.le_succ_of_le (List.getElem?_eq_none_iff.1 ht)), ← List.take_of_length_le (List.getElem?_eq_none_iff.1 ht)] at h
      obtain ⟨j, s, h1, h2⟩ := wFold_ids k y h
      exact ⟨j, s, by omega, h2⟩
    | some t =>
      rw [wFold_snoc ht] at h
      cases hx : p t || hasB (wFold p (ts.take k)).2 t.Parent
      · rw [wStep_kept hx] at h
        obtain ⟨j, s, h1, h2⟩ := wFold_ids k y h
        exact ⟨j, s, by omega, h2⟩
      · rw [wStep_gone hx] at h
        rcases List.mem_append.1 h with h | h
        · obtain ⟨j, s, h1, h2⟩ := wFold_ids k y h
          exact ⟨j, s, by omega, h2⟩
        · rw [List.mem_singleton.1 h]
          exact ⟨k, t, by omega, ht, rfl⟩
theorem hasB_mem {xs : List Int} {x : Int} : hasB xs x = true ↔ x ∈ xs := by
  unfold hasB
  rw [List.any_eq_true]
  exact ⟨fun ⟨y, h1, h2⟩ => by rw [← (by simpa using h2 : y = x)]; exact h1, fun h => ⟨x, h, by simp⟩⟩
theorem wFold_new {p : Token → Bool} {ts : List Token} (hf : forestOk ts = true) {k : Nat} {t : Token} (ht : ts[k]? = some t) : hasB (wFold p (ts.take k)).2 t.Id = false := by
  cases h : hasB (wFold p (ts.take k)).2 t.Id
  · rfl
  · obtain ⟨j, s, h1, h2, h3⟩ := wFold_ids k _ (hasB_mem.1 h)
    have := forest_inj hf h2 ht h3
    omega
theorem lessT_more {ts : List Token} (hf : forestOk ts = true) {k : Nat} {t : Token} (ht : ts[k]? = some t) (gone : List Int) : lessT (ts.take k) (gone ++ [t.Id]) = lessT (ts.take k) gone := by
  unfold lessT
  refine List.filter_congr fun s hs => ?_
  obtain ⟨j, hj, e⟩ := List.mem_iff_getElem.1 hs
  rw [List.getElem_take] at e
  rw [List.length_take] at hj
  have hne : (t.Id == s.Id) = false := by
    rw [beq_eq_false_iff_ne]
    intro h
    have := forest_inj hf (i := j) (j := k) (by rw [List.getElem?_eq_getElem (by omega), e]) ht h.symm
    omega
  rw [hasB_snoc, hne, Bool.or_false]
theorem wFold_kept {p : Token → Bool} {ts : List Token} (hf : forestOk ts = true) : ∀ k, k ≤ ts.length → (wFold p (ts.take k)).1 = lessT (ts.take k) (wFold p (ts.take k)).2
  | 0, _ => rfl
  | k + 1, hk => by
    have ht := List.getElem?_eq_getElem (l := ts) (i := k) (by omega)
    have ih := wFold_kept (p := p) hf k (by omega)
    rw [wFold_snoc ht]
    cases hx : p (ts[k]'(by omega)) || hasB (wFold p (ts.take k)).2 (ts[k]'(by omega)).Parent
    · rw [wStep_kept hx, lessT_kept ht (wFold_new hf ht), ih]
    · rw [wStep_gone hx, lessT_gone ht (by rw [hasB_snoc]; simp), lessT_more hf ht, ih]
theorem wFold_less {p : Token → Bool} {ts : List Token} (hf : forestOk ts = true) : (wFold p ts).1 = lessT ts (wFold p ts).2 := by
  have := wFold_kept (p := p) hf ts.length (Nat.le_refl _)
  rwa [List.take_length] at this
theorem lessT_nil (ts : List Token) : lessT ts [] = ts := by unfold lessT; rw [List.filter_eq_self]; intro t _; rfl
theorem under_found {ts : List Token} {top : Int} (hf : forestOk ts = true) : ∀ (n : Nat) (p : Int), p.toNat ≤ n → 0 ≤ p → (p ≠ 0 → 0 ≤ idxT ts p) → underW ts top p = true → 0 ≤ idxT ts top
  | 0, p, h, h0, _, hu => by
    have : p = 0 := by omega
    rw [this, underW_zero] at hu
    cases hu
  | n + 1, p, h, h0, hx, hu => by
    by_cases hp : p = 0
    · rw [hp, underW_zero] at hu; cases hu
    · by_cases ht : p = top
      · rw [← ht]; exact hx hp
      · obtain ⟨i, t, e1, e2, e3⟩ := tok_at (hx hp)
        rw [underW_step hf hp ht e1 e2 e3] at hu
        obtain ⟨h1, h2, h3, h4, h5⟩ := forest_tok hf e2
        exact under_found hf n t.Parent (by omega) h3 h5 hu
theorem belowS_none {ts : List Token} {id : Int} (hf : forestOk ts = true) (h : idxT ts id < 0) : belowS ts id = [] := by
  unfold belowS
  rw [List.filter_eq_nil_iff.2, List.map_nil]
  intro t ht hu
  obtain ⟨j, hj, e⟩ := List.mem_iff_getElem.1 ht
  have hq : ts[j]? = some t := by rw [List.getElem?_eq_getElem hj, e]
  have h1 := (forest_tok hf hq).1
  have := under_found hf t.Id.toNat t.Id (Nat.le_refl _) (by omega) (fun _ => idxT_mem hq) hu
  omega
theorem belowS_some {ts : List Token} {id : Int} (hf : forestOk ts = true) (h : 0 ≤ idxT ts id) : 0 < (belowS ts id).length := by
  obtain ⟨i, t, e1, e2, e3⟩ := tok_at h
  have h1 := (forest_tok hf e2).1
  have : t.Id ∈ belowS ts id := by
    unfold belowS
    refine List.mem_map.2 ⟨t, List.mem_filter.2 ⟨List.mem_of_getElem? e2, ?_⟩, rfl⟩
    rw [e3, underW_top (by omega)]
  exact List.length_pos_of_mem this
def revT (ts : List Token) (id : Int) : List Token := match forestOk ts with | true => lessT ts (belowS ts id) | false => ts
def revI (ts : List Token) (id : Int) : List Int := match forestOk ts with | true => belowS ts id | false => []
theorem rev_bad {ts : List Token} {id : Int} (h : forestOk ts = false) : revT ts id = ts ∧ revI ts id = [] := by unfold revT revI; rw [h]; exact ⟨rfl, rfl⟩
theorem rev_ok {ts : List Token} {id : Int} (h : forestOk ts = true) : revT ts id = lessT ts (belowS ts id) ∧ revI ts id = belowS ts id := by unfold revT revI; rw [h]; exact ⟨rfl, rfl⟩
theorem rev_fold {ts : List Token} {id : Int} (h : forestOk ts = true) : (wFold (hasTok id) ts).1 = revT ts id ∧ (wFold (hasTok id) ts).2 = revI ts id := by rw [(rev_ok h).1, (rev_ok h).2, ← below_same h]; exact ⟨wFold_less h, rfl⟩
theorem rev_none {ts : List Token} {id : Int} (h : belowF ts id = []) : revT ts id = ts ∧ revI ts id = [] := by
  cases hf : forestOk ts
  · exact rev_bad hf
  · rw [(rev_ok hf).1, (rev_ok hf).2]
    by_cases hx : idxT ts id < 0
    · rw [belowS_none hf hx, lessT_nil]; exact ⟨rfl, rfl⟩
    · obtain ⟨i, t, e1, e2, e3⟩ := tok_at (Int.not_lt.1 hx)
      rw [belowF_yes (findOk_at hf e1)] at h
      have := belowS_some hf (Int.not_lt.1 hx)
      rw [h] at this
      cases this
theorem rev_some {ts : List Token} {id : Int} (h : 0 < (belowF ts id).length) : revT ts id = lessT ts (belowF ts id) ∧ revI ts id = belowF ts id := by
  cases hk : findOk ts id
  · rw [belowF_no hk] at h; cases h
  · have hf : forestOk ts = true := by unfold findOk at hk; simp only [Bool.and_eq_true] at hk; exact hk.1
    rw [belowF_yes hk]
    exact rev_ok hf
def overP (now : Int) (t : Token) : Bool := overB t.Ends now
def sweepT (ts : List Token) (now : Int) : List Token := match forestOk ts with | true => (wFold (overP now) ts).1 | false => ts
def sweepI (ts : List Token) (now : Int) : List Int := match forestOk ts with | true => (wFold (overP now) ts).2 | false => []
theorem sweep_bad {ts : List Token} {now : Int} (h : forestOk ts = false) : sweepT ts now = ts ∧ sweepI ts now = [] := by unfold sweepT sweepI; rw [h]; exact ⟨rfl, rfl⟩
theorem sweep_ok {ts : List Token} {now : Int} (h : forestOk ts = true) : sweepT ts now = (wFold (overP now) ts).1 ∧ sweepI ts now = (wFold (overP now) ts).2 := by unfold sweepT sweepI; rw [h]; exact ⟨rfl, rfl⟩
theorem sweep_less {ts : List Token} {now : Int} (h : forestOk ts = true) : sweepT ts now = lessT ts (sweepI ts now) := by rw [(sweep_ok h).1, (sweep_ok h).2]; exact wFold_less h
/-- No token has the Id 0. -/
theorem wFold_zero {p : Token → Bool} {ts : List Token} (hf : forestOk ts = true) (k : Nat) : hasB (wFold p (ts.take k)).2 0 = false := by
  cases h : hasB (wFold p (ts.take k)).2 0
  · rfl
  · obtain ⟨j, s, h1, h2, h3⟩ := wFold_ids k _ (hasB_mem.1 h)
    have := (forest_tok hf h2).1
    omega
theorem wFold_len (p : Token → Bool) (ts : List Token) : ∀ st : List Token × List Int, (ts.foldl (wStep p) st).1.length + (ts.foldl (wStep p) st).2.length = st.1.length + st.2.length + ts.length := by
  induction ts with
  | nil => intro st; simp
  | cons t ts ih =>
    intro st
    rw [List.foldl_cons, ih]
    unfold wStep
    cases p t || hasB st.2 t.Parent <;> simp <;> omega
theorem revI_len (ts : List Token) (id : Int) : (revI ts id).length ≤ ts.length := by
  cases h : forestOk ts
  · rw [(rev_bad h).2]; simp
  · rw [(rev_ok h).2]; exact belowS_len ts id
theorem sweepI_len (ts : List Token) (now : Int) : (sweepI ts now).length ≤ ts.length := by
  cases h : forestOk ts
  · rw [(sweep_bad h).2]; simp
  · rw [(sweep_ok h).2]
    have := wFold_len (overP now) ts ([], [])
    unfold wFold
    simp only [List.length_nil] at this
    omega
theorem revT_sz (ts : List Token) (id : Int) : szList TokenR (revT ts id) ≤ szList TokenR ts := by
  cases h : forestOk ts
  · rw [(rev_bad h).1]; exact Nat.le_refl _
  · rw [(rev_ok h).1]; exact lessT_sz _ _
theorem sweepT_sz (ts : List Token) (now : Int) : szList TokenR (sweepT ts now) ≤ szList TokenR ts := by
  cases h : forestOk ts
  · rw [(sweep_bad h).1]; exact Nat.le_refl _
  · rw [sweep_less h]; exact lessT_sz _ _
end Go.Proofs.Ytialceppopjhaaa

/- A token revoked alone: plain data. -/
import Derived.Test.YtialceppopjhaaaPureBelow
set_option linter.unusedSimpArgs false
set_option linter.unusedVariables false
namespace Go.Proofs.Ytialceppopjhaaa
open Go.RowKit
def noParent (t : Token) : Token := ⟨t.Id, 0, t.Names, t.Made, t.Ends, t.Limit, t.Uses⟩
def orphan (id : Int) (t : Token) : Token := match t.Parent == id with | true => noParent t | false => t
def aloneT (ts : List Token) (id : Int) : List Token := match findOk ts id with | true => (lessT ts [id]).map (orphan id) | false => ts
theorem aloneT_no {ts : List Token} {id : Int} (h : findOk ts id = false) : aloneT ts id = ts := by unfold aloneT; rw [h]
theorem aloneT_yes {ts : List Token} {id : Int} (h : findOk ts id = true) : aloneT ts id = (lessT ts [id]).map (orphan id) := by unfold aloneT; rw [h]
def orphK (xs : List Token) (id : Int) (j : Nat) : List Token := (xs.take j).map (orphan id) ++ xs.drop j
section
variable {xs : List Token} {id : Int} {j : Nat} {t : Token}
theorem orphK_zero (xs : List Token) (id : Int) : orphK xs id 0 = xs := by simp [orphK]
theorem orphK_all (h : xs.length ≤ j) : orphK xs id j = xs.map (orphan id) := by unfold orphK; rw [List.take_of_length_le h, List.drop_eq_nil_of_le h, List.append_nil]
theorem orphK_len (xs : List Token) (id : Int) (j : Nat) : (orphK xs id j).length = xs.length := by unfold orphK; rw [List.length_append, List.length_map, List.length_take, List.length_drop]; omega
theorem orphK_get (h : xs[j]? = some t) : (orphK xs id j)[j]? = some t := by
  obtain ⟨hl, _⟩ := List.getElem?_eq_some_iff.1 h
  unfold orphK
  rw [List.getElem?_append_right (by rw [List.length_map, List.length_take]; omega), List.length_map, List.length_take, Nat.min_eq_left (by omega), Nat.sub_self, List.getElem?_drop]
  exact h
theorem orphK_succ (h : xs[j]? = some t) : orphK xs id (j + 1) = (orphK xs id j).set j (orphan id t) := by
  obtain ⟨hl, he⟩ := List.getElem?_eq_some_iff.1 h
  unfold orphK
  have hL : ((xs.take j).map (orphan id)).length = j := by rw [List.length_map, List.length_take]; omega
  rw [List.set_append_right _ _ (by omega), hL, Nat.sub_self, List.drop_eq_getElem_cons hl, List.set_cons_zero, take_snoc h, List.map_append]
  simp
theorem orphK_yes (h : xs[j]? = some t) (hp : (t.Parent == id) = true) : orphK xs id (j + 1) = (orphK xs id j).set j (noParent t) := by rw [orphK_succ h]; unfold orphan; rw [hp]
theorem orphK_no (h : xs[j]? = some t) (hp : (t.Parent == id) = false) : orphK xs id (j + 1) = orphK xs id j := by
  rw [orphK_succ h]; unfold orphan; rw [hp]
  obtain ⟨hl, he⟩ := List.getElem?_eq_some_iff.1 (orphK_get (id := id) h)
  refine List.ext_getElem? fun i => ?_
  by_cases hi : j = i
  · subst hi; rw [List.getElem?_set_self hl, orphK_get h]
  · rw [List.getElem?_set_ne hi]
end
theorem erase_less {ts : List Token} {id : Int} {i : Nat} {t : Token} (hf : forestOk ts = true) (ht : ts[i]? = some t) (hid : t.Id = id) : ts.eraseIdx i = lessT ts [id] := by
  obtain ⟨hl, he⟩ := List.getElem?_eq_some_iff.1 ht
  have key : ∀ s ∈ ts.take i ++ ts.drop (i + 1), (!hasB [id] s.Id) = true := by
    intro s hs
    have hne : ∃ j, j ≠ i ∧ ts[j]? = some s := by
      rcases List.mem_append.1 hs with h | h
      · obtain ⟨j, hj, e⟩ := List.mem_iff_getElem.1 h
        rw [List.getElem_take] at e
        rw [List.length_take] at hj
        exact ⟨j, by omega, by rw [List.getElem?_eq_getElem (by omega), e]⟩
      · obtain ⟨j, hj, e⟩ := List.mem_iff_getElem.1 h
        rw [List.getElem_drop] at e
        rw [List.length_drop] at hj
        exact ⟨i + 1 + j, by omega, by rw [List.getElem?_eq_getElem (by omega), e]⟩
    obtain ⟨j, hj, e⟩ := hne
    simp only [hasB, List.any_cons, List.any_nil, Bool.or_false, Bool.not_eq_true', beq_eq_false_iff_ne, ne_eq]
    intro h
    exact hj (forest_inj hf e ht (by rw [← h, hid]))
  have hts : ts = ts.take i ++ (t :: ts.drop (i + 1)) := by
    conv => lhs; rw [← List.take_append_drop i ts, List.drop_eq_getElem_cons hl, he]
  unfold lessT
  conv => rhs; rw [hts]
  rw [List.filter_append, List.filter_cons_of_neg (by simp [hasB, hid]), ← List.filter_append, List.filter_eq_self.2 key, List.eraseIdx_eq_take_drop_succ]
theorem lessT_sz (ts : List Token) (gone : List Int) : szList TokenR (lessT ts gone) ≤ szList TokenR ts := by
  unfold lessT
  induction ts with
  | nil => exact Nat.le_refl _
  | cons x xs ih =>
    unfold szList at ih ⊢
    have h1 : (x :: xs).filter (fun t => !hasB gone t.Id) = if (!hasB gone x.Id) = true then x :: xs.filter (fun t => !hasB gone t.Id) else xs.filter (fun t => !hasB gone t.Id) := List.filter_cons
    rw [h1]
    split
    · rw [List.map_cons, List.sum_cons, List.length_cons, List.map_cons, List.sum_cons, List.length_cons]; omega
    · rw [List.map_cons, List.sum_cons, List.length_cons]; omega
theorem aloneT_sz (ts : List Token) (id : Int) : szList TokenR (aloneT ts id) ≤ szList TokenR ts := by
  cases h : findOk ts id
  · rw [aloneT_no h]; exact Nat.le_refl _
  · rw [aloneT_yes h]
    have h1 := lessT_sz ts [id]
    have h2 : szList TokenR ((lessT ts [id]).map (orphan id)) = szList TokenR (lessT ts [id]) := by
      unfold szList
      rw [List.length_map, List.map_map]
      congr 2
      refine List.map_congr_left fun t _ => ?_
      show TokenR.sz (orphan id t) = TokenR.sz t
      unfold orphan
      cases t.Parent == id
      · rfl
      · simp only [sz_Token, noParent]
    omega
end Go.Proofs.Ytialceppopjhaaa

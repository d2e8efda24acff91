/- Which tokens stand below one: plain data; both ways of finding them answer alike. -/
import Derived.Test.YtialceppopjhaaaPureWithout
set_option linter.unusedSimpArgs false
set_option linter.unusedVariables false
namespace Go.Proofs.Ytialceppopjhaaa
open Go.RowKit
theorem forest_sorted {ts : List Token} (hf : forestOk ts = true) : ∀ (n i : Nat) (s t : Token), ts[i]? = some s → ts[i + n + 1]? = some t → s.Id < t.Id
  | 0, i, s, t, hs, ht => by
    have h := okAll_lt (forestOk_all hf) (List.getElem?_eq_some_iff.1 ht).1 hs ht
    simpa [idLt] using h
  | n + 1, i, s, t, hs, ht => by
    have hlt := (List.getElem?_eq_some_iff.1 ht).1
    have hm : ts[i + n + 1]? = some (ts[i + n + 1]'(by omega)) := List.getElem?_eq_getElem _
    have h1 := forest_sorted hf n i s _ hs hm
    have h2 := okAll_lt (forestOk_all hf) (k := i + n + 1) hlt hm ht
    simp only [idLt, decide_eq_true_eq] at h2
    omega
theorem forest_lt {ts : List Token} (hf : forestOk ts = true) {i j : Nat} {s t : Token} (hs : ts[i]? = some s) (ht : ts[j]? = some t) (h : i < j) : s.Id < t.Id := by
  obtain ⟨n, rfl⟩ : ∃ n, j = i + n + 1 := ⟨j - i - 1, by omega⟩
  exact forest_sorted hf n i s t hs ht
theorem forest_inj {ts : List Token} (hf : forestOk ts = true) {i j : Nat} {s t : Token} (hs : ts[i]? = some s) (ht : ts[j]? = some t) (h : s.Id = t.Id) : i = j := by
  rcases Nat.lt_trichotomy i j with h1 | h1 | h1
  · have := forest_lt hf hs ht h1; omega
  · exact h1
  · have := forest_lt hf ht hs h1; omega
theorem idxT_mem {ts : List Token} {k : Nat} {t : Token} (ht : ts[k]? = some t) : 0 ≤ idxT ts t.Id := by
  unfold idxT idxB
  cases hf : ts.findIdx? (hasTok t.Id) with
  | some i => simp
  | none =>
    have := List.findIdx?_eq_none_iff.1 hf t (List.mem_of_getElem? ht)
    simp [hasTok] at this
theorem idxT_self {ts : List Token} (hf : forestOk ts = true) {k : Nat} {t : Token} (ht : ts[k]? = some t) : idxT ts t.Id = k := by
  obtain ⟨i, t', e1, e2, e3⟩ := tok_at (idxT_mem ht)
  rw [e1, forest_inj hf e2 ht e3]
/-- Whether one token is another, or stands below it. -/
def underW (ts : List Token) (top p : Int) : Bool := if p = 0 then false else if p = top then true else if h : 0 ≤ parentId ts p ∧ parentId ts p < p then underW ts top (parentId ts p) else false
termination_by p.toNat
decreasing_by omega
theorem underW_zero (ts : List Token) (top : Int) : underW ts top 0 = false := by rw [underW, if_pos rfl]
theorem underW_top {ts : List Token} {top : Int} (h : top ≠ 0) : underW ts top top = true := by rw [underW, if_neg h, if_pos rfl]
theorem underW_step {ts : List Token} {top p : Int} {i : Nat} {t : Token} (hf : forestOk ts = true) (hp : p ≠ 0) (hne : p ≠ top) (h : idxT ts p = i) (ht : ts[i]? = some t) (hid : t.Id = p) : underW ts top p = underW ts top t.Parent := by
  obtain ⟨h1, h2, h3, h4, _⟩ := forest_tok hf ht
  rw [underW, if_neg hp, if_neg hne, dif_pos (by rw [parentId_at h ht]; omega), parentId_at h ht]
def belowS (ts : List Token) (top : Int) : List Int := (ts.filter (fun t => underW ts top t.Id)).map (·.Id)
def belowK (ts : List Token) (top : Int) (k : Nat) : List Int := ((ts.take k).filter (fun t => underW ts top t.Id)).map (·.Id)
theorem belowK_all {ts : List Token} {top : Int} {k : Nat} (h : ts.length ≤ k) : belowK ts top k = belowS ts top := by unfold belowK belowS; rw [List.take_of_length_le h]
theorem belowK_yes {ts : List Token} {top : Int} {k : Nat} {t : Token} (ht : ts[k]? = some t) (h : underW ts top t.Id = true) : belowK ts top (k + 1) = belowK ts top k ++ [t.Id] := by
  unfold belowK; rw [take_snoc ht, List.filter_append, List.map_append]; congr 1; simp [h]
theorem belowK_no {ts : List Token} {top : Int} {k : Nat} {t : Token} (ht : ts[k]? = some t) (h : underW ts top t.Id = false) : belowK ts top (k + 1) = belowK ts top k := by
  unfold belowK; rw [take_snoc ht, List.filter_append, List.map_append]; simp [h]
theorem hasB_belowK {ts : List Token} {top : Int} {k : Nat} {t : Token} (hf : forestOk ts = true) (ht : ts[k]? = some t) : hasB (belowK ts top k) t.Parent = underW ts top t.Parent := by
  obtain ⟨h1, h2, h3, h4, h5⟩ := forest_tok hf ht
  by_cases h0 : t.Parent = 0
  · rw [h0, underW_zero]
    unfold hasB
    rw [List.any_eq_false]
    intro y hy
    obtain ⟨s, hs, rfl⟩ := List.mem_map.1 hy
    obtain ⟨j, hj, e⟩ := List.mem_iff_getElem.1 (List.mem_of_mem_take (List.mem_filter.1 hs).1)
    have := (forest_tok hf (by rw [List.getElem?_eq_getElem hj, e])).1
    simp; omega
  · obtain ⟨i, s, e1, e2, e3⟩ := tok_at (h5 h0)
    have hik : i < k := by
      rcases Nat.lt_or_ge i k with h | h
      · exact h
      · rcases Nat.eq_or_lt_of_le h with h6 | h6
        · subst h6; rw [ht] at e2; cases e2; omega
        · have := forest_lt hf ht e2 h6; omega
    cases hu : underW ts top t.Parent
    · unfold hasB
      rw [List.any_eq_false]
      intro y hy
      obtain ⟨s', hs, rfl⟩ := List.mem_map.1 hy
      have h7 := (List.mem_filter.1 hs).2
      intro h8
      have h9 : s'.Id = t.Parent := by simpa using h8
      rw [h9, hu] at h7
      cases h7
    · refine hasB_found (k := _) (y := s.Id) (x := t.Parent) ((List.getElem?_eq_some_iff.2 ?_ : (belowK ts top k)[(belowK ts top k).idxOf s.Id]? = some s.Id)) (by rw [e3]; simp)
      have hmem : s.Id ∈ belowK ts top k := by
        refine List.mem_map.2 ⟨s, List.mem_filter.2 ⟨?_, by rw [e3]; exact hu⟩, rfl⟩
        rw [List.mem_take_iff_getElem]
        obtain ⟨q1, q2⟩ := List.getElem?_eq_some_iff.1 e2
        exact ⟨i, by omega, q2⟩
      exact ⟨List.idxOf_lt_length_iff.2 hmem, List.getElem_idxOf _⟩
theorem under_step {ts : List Token} {top : Int} {k : Nat} {t : Token} (hf : forestOk ts = true) (ht : ts[k]? = some t) : (hasTok top t || hasB (belowK ts top k) t.Parent) = underW ts top t.Id := by
  obtain ⟨h1, h2, h3, h4, h5⟩ := forest_tok hf ht
  rw [hasB_belowK hf ht]
  cases hx : hasTok top t
  · have hne : t.Id ≠ top := by simpa [hasTok] using hx
    rw [underW_step hf (by omega) hne (idxT_self hf ht) ht rfl, Bool.false_or]
  · have he : t.Id = top := by simpa [hasTok] using hx
    rw [he, underW_top (by omega), Bool.true_or]
theorem below_alike {ts : List Token} {top : Int} (hf : forestOk ts = true) : ∀ k, k ≤ ts.length → (wFold (hasTok top) (ts.take k)).2 = belowK ts top k
  | 0, _ => rfl
  | k + 1, hk => by
    have ht := List.getElem?_eq_getElem (l := ts) (i := k) (by omega)
    have ih := below_alike hf k (by omega) (top := top)
    have hs := under_step (top := top) hf ht
    rw [wFold_snoc ht]
    cases hu : underW ts top (ts[k]'(by omega)).Id
    · rw [hu, ← ih] at hs
      rw [wStep_kept hs, belowK_no ht hu]
      exact ih
    · rw [hu, ← ih] at hs
      rw [wStep_gone hs, belowK_yes ht hu, ih]
theorem below_same {ts : List Token} {top : Int} (hf : forestOk ts = true) : (wFold (hasTok top) ts).2 = belowS ts top := by
  have := below_alike (top := top) hf ts.length (Nat.le_refl _)
  rw [List.take_length] at this
  rw [this, belowK_all (Nat.le_refl _)]
def belowF (ts : List Token) (id : Int) : List Int := match findOk ts id with | true => belowS ts id | false => []
theorem belowF_no {ts : List Token} {id : Int} (h : findOk ts id = false) : belowF ts id = [] := by unfold belowF; rw [h]
theorem belowF_yes {ts : List Token} {id : Int} (h : findOk ts id = true) : belowF ts id = belowS ts id := by unfold belowF; rw [h]
theorem belowS_len (ts : List Token) (id : Int) : (belowS ts id).length ≤ ts.length := by unfold belowS; rw [List.length_map]; exact List.length_filter_le _ _
theorem belowF_len (ts : List Token) (id : Int) : (belowF ts id).length ≤ ts.length := by
  cases h : findOk ts id
  · rw [belowF_no h]; simp
  · rw [belowF_yes h]; exact belowS_len ts id
end Go.Proofs.Ytialceppopjhaaa

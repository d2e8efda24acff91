/- Forests as plain data: when a forest is valid. Forests as plain data: parents; the depth of a token. Forests as plain data: the token with an Id. Forests without some tokens: plain data. Which tokens stand below one: plain data; both ways of finding them answer alike. A token revoked alone: plain data. Revoking and sweeping: plain data; both ways answer alike. -/
import Derived.Test.YtoijmnnjcoogkaaDoorTokRd
import Derived.Test.YtoijmnnjcoogkaaDoorHas
import Derived.Test.YtoijmnnjcoogkaaDoorLate
set_option linter.unusedSimpArgs false
set_option linter.unusedVariables false
set_option maxRecDepth 20000
namespace Go.Proofs.YtoijmnnjcoogkaaDoor
open Go.RowKit
def parentOk (ts : List Token) (t : Token) : Bool := t.Parent == 0 || decide (0 ≤ idxT ts t.Parent)
def inForest (ts : List Token) (t : Token) : Bool := tokOk t && parentOk ts t
def idLt (s t : Token) : Bool := decide (s.Id < t.Id)
def forestOk (ts : List Token) : Bool := decide (ts.length ≤ 120) && okAll (inForest ts) idLt ts ts.length
theorem forestOk_bad {ts : List Token} {k : Nat} (hk : k < ts.length) (h : okAt (inForest ts) idLt ts k = false) : forestOk ts = false := by unfold forestOk; rw [okAll_false hk h, Bool.and_false]
theorem forestOk_done {ts : List Token} (h : okAll (inForest ts) idLt ts ts.length = true) : forestOk ts = decide (ts.length ≤ 120) := by unfold forestOk; rw [h, Bool.and_true]
theorem forestOk_long {ts : List Token} (h : ¬ ts.length ≤ 120) : forestOk ts = false := by unfold forestOk; rw [decide_eq_false h, Bool.false_and]
theorem forestOk_len {ts : List Token} (h : forestOk ts = true) : ts.length ≤ 120 := by
  unfold forestOk at h
  simp only [Bool.and_eq_true, decide_eq_true_eq] at h
  exact h.1
theorem forestOk_all {ts : List Token} (h : forestOk ts = true) : okAll (inForest ts) idLt ts ts.length = true := by
  unfold forestOk at h
  simp only [Bool.and_eq_true] at h
  exact h.2
theorem inForest_bad {ts : List Token} {t : Token} (h : tokOk t = false) : inForest ts t = false := by unfold inForest; rw [h, Bool.false_and]
theorem inForest_zero {ts : List Token} {t : Token} (h : tokOk t = true) (h2 : (t.Parent == 0) = true) : inForest ts t = true := by unfold inForest parentOk; rw [h, h2]; rfl
theorem inForest_at {ts : List Token} {t : Token} (h : tokOk t = true) (h2 : (t.Parent == 0) = false) : inForest ts t = decide (0 ≤ idxT ts t.Parent) := by unfold inForest parentOk; rw [h, h2]; rfl
end Go.Proofs.YtoijmnnjcoogkaaDoor
namespace Go.Proofs.YtoijmnnjcoogkaaDoor
open Go.RowKit
theorem tok_at {ts : List Token} {id : Int} (h : 0 ≤ idxT ts id) : ∃ (i : Nat) (t : Token), idxT ts id = i ∧ ts[i]? = some t ∧ t.Id = id := by
  unfold idxT idxB at *
  cases hf : ts.findIdx? (hasTok id) with
  | none => rw [hf] at h; simp at h
  | some i =>
    obtain ⟨h1, h2, _⟩ := List.findIdx?_eq_some_iff_getElem.1 hf
    exact ⟨i, _, rfl, List.getElem?_eq_getElem h1, by simpa [hasTok] using h2⟩
theorem idxT_small {ts : List Token} {id : Int} {i : Nat} (h : idxT ts id = i) : i < ts.length := by
  rcases idxT_le ts id with h1 | h1 <;> omega
theorem tok_facts {t : Token} (h : tokOk t = true) : 1 ≤ t.Id ∧ t.Id ≤ 1000000000 ∧ 0 ≤ t.Parent ∧ t.Parent < t.Id := by
  simp only [tokOk, Bool.and_eq_true, withinB_iff] at h
  obtain ⟨⟨h1, h2⟩, ⟨h3, h4⟩, _⟩ := h
  omega
theorem forest_tok {ts : List Token} {i : Nat} {t : Token} (hf : forestOk ts = true) (ht : ts[i]? = some t) : 1 ≤ t.Id ∧ t.Id ≤ 1000000000 ∧ 0 ≤ t.Parent ∧ t.Parent < t.Id ∧ (t.Parent ≠ 0 → 0 ≤ idxT ts t.Parent) := by
  have h := okAll_get (forestOk_all hf) (List.getElem?_eq_some_iff.1 ht).1 ht
  simp only [inForest, Bool.and_eq_true, parentOk, Bool.or_eq_true, beq_iff_eq, decide_eq_true_eq] at h
  obtain ⟨h1, h2, h3, h4⟩ := tok_facts h.1
  exact ⟨h1, h2, h3, h4, fun h5 => by rcases h.2 with h6 | h6; exact absurd h6 h5; omega⟩
def parentId (ts : List Token) (id : Int) : Int := match ts[(idxT ts id).toNat]? with | some t => t.Parent | none => 0
theorem parentId_at {ts : List Token} {id : Int} {i : Nat} {t : Token} (h : idxT ts id = i) (ht : ts[i]? = some t) : parentId ts id = t.Parent := by
  unfold parentId
  rw [h, Int.toNat_natCast, ht]
/-- How many steps it takes from a token's Parent up to the top. -/
def depthW (ts : List Token) (p : Int) : Nat := if p = 0 then 0 else if h : 0 ≤ parentId ts p ∧ parentId ts p < p then 1 + depthW ts (parentId ts p) else 1
termination_by p.toNat
decreasing_by omega
theorem depthW_zero (ts : List Token) : depthW ts 0 = 0 := by rw [depthW, if_pos rfl]
theorem depthW_step {ts : List Token} {p : Int} {i : Nat} {t : Token} (hf : forestOk ts = true) (hp : p ≠ 0) (h : idxT ts p = i) (ht : ts[i]? = some t) (hid : t.Id = p) : depthW ts p = 1 + depthW ts t.Parent := by
  obtain ⟨h1, h2, h3, h4, _⟩ := forest_tok hf ht
  rw [depthW, if_neg hp, dif_pos (by rw [parentId_at h ht]; omega), parentId_at h ht]
def depthF (ts : List Token) (id : Int) : Int := match forestOk ts && decide (0 ≤ idxT ts id) with | true => (depthW ts (parentId ts id) : Nat) | false => -1
theorem depthF_bad {ts : List Token} {id : Int} (h : forestOk ts = false) : depthF ts id = -1 := by unfold depthF; rw [h]; rfl
theorem depthF_none {ts : List Token} {id : Int} (h : idxT ts id < 0) : depthF ts id = -1 := by unfold depthF; rw [decide_eq_false (by omega : ¬ 0 ≤ idxT ts id), Bool.and_false]
theorem depthF_at {ts : List Token} {id : Int} {i : Nat} {t : Token} (hf : forestOk ts = true) (h : idxT ts id = i) (ht : ts[i]? = some t) : depthF ts id = (depthW ts t.Parent : Nat) := by
  unfold depthF
  rw [hf, decide_eq_true (by omega : 0 ≤ idxT ts id), parentId_at h ht]
  rfl
def idAt (ts : List Token) (k : Nat) : Nat := match ts[k]? with | some t => t.Id.toNat | none => 0
theorem idAt_eq {ts : List Token} {k : Nat} {t : Token} (h : ts[k]? = some t) : idAt ts k = t.Id.toNat := by unfold idAt; rw [h]
end Go.Proofs.YtoijmnnjcoogkaaDoor
namespace Go.Proofs.YtoijmnnjcoogkaaDoor
open Go.RowKit
def noToken : Token := ⟨0, 0, [], 0, 0, 0, 0⟩
def findOk (ts : List Token) (id : Int) : Bool := forestOk ts && decide (0 ≤ idxT ts id)
def findTok (ts : List Token) (id : Int) : Token := match findOk ts id with | true => (ts[(idxT ts id).toNat]?).getD noToken | false => noToken
theorem findOk_bad {ts : List Token} {id : Int} (h : forestOk ts = false) : findOk ts id = false := by unfold findOk; rw [h]; rfl
theorem findOk_none {ts : List Token} {id : Int} (h : idxT ts id < 0) : findOk ts id = false := by unfold findOk; rw [decide_eq_false (by omega : ¬ 0 ≤ idxT ts id), Bool.and_false]
theorem findOk_at {ts : List Token} {id : Int} {i : Nat} (hf : forestOk ts = true) (h : idxT ts id = i) : findOk ts id = true := by unfold findOk; rw [hf, decide_eq_true (by omega : 0 ≤ idxT ts id)]; rfl
theorem findTok_no {ts : List Token} {id : Int} (h : findOk ts id = false) : findTok ts id = noToken := by unfold findTok; rw [h]
theorem findTok_at {ts : List Token} {id : Int} {i : Nat} {t : Token} (hf : forestOk ts = true) (h : idxT ts id = i) (ht : ts[i]? = some t) : findTok ts id = t := by
  unfold findTok
  rw [findOk_at hf h, h, Int.toNat_natCast, ht]
  rfl
theorem findTok_sz (ts : List Token) (id : Int) : TokenR.sz (findTok ts id) ≤ szList TokenR ts := by
  unfold findTok
  cases h : findOk ts id
  · simp [noToken, sz_Token, szList]
  · cases ht : ts[(idxT ts id).toNat]? with
    | none => simp [noToken, sz_Token, szList]
    | some t => exact szList_one ht
end Go.Proofs.YtoijmnnjcoogkaaDoor
namespace Go.Proofs.YtoijmnnjcoogkaaDoor
open Go.RowKit
def lessT (ts : List Token) (gone : List Int) : List Token := ts.filter (fun t => !hasB gone t.Id)
theorem lessT_gone {ts : List Token} {gone : List Int} {k : Nat} {t : Token} (h : ts[k]? = some t) (hx : hasB gone t.Id = true) : lessT (ts.take (k + 1)) gone = lessT (ts.take k) gone := by
  rw [take_snoc h]
  unfold lessT
  rw [List.filter_append, List.filter_cons_of_neg (by rw [hx]; simp), List.filter_nil, List.append_nil]
theorem lessT_kept {ts : List Token} {gone : List Int} {k : Nat} {t : Token} (h : ts[k]? = some t) (hx : hasB gone t.Id = false) : lessT (ts.take (k + 1)) gone = lessT (ts.take k) gone ++ [t] := by
  rw [take_snoc h]
  unfold lessT
  rw [List.filter_append, List.filter_cons_of_pos (by rw [hx]; rfl), List.filter_nil]
theorem lessT_len (ts : List Token) (gone : List Int) : (lessT ts gone).length ≤ ts.length := List.length_filter_le _ _
def wStep (p : Token → Bool) (st : List Token × List Int) (t : Token) : List Token × List Int := match p t || hasB st.2 t.Parent with
  | true => (st.1, st.2 ++ [t.Id])
  | false => (st.1 ++ [t], st.2)
def wFold (p : Token → Bool) (ts : List Token) : List Token × List Int := ts.foldl (wStep p) ([], [])
theorem wFold_snoc {p : Token → Bool} {ts : List Token} {k : Nat} {t : Token} (h : ts[k]? = some t) : wFold p (ts.take (k + 1)) = wStep p (wFold p (ts.take k)) t := by
  rw [take_snoc h]
  unfold wFold
  rw [List.foldl_append]
  rfl
theorem wStep_gone {p : Token → Bool} {st : List Token × List Int} {t : Token} (h : (p t || hasB st.2 t.Parent) = true) : wStep p st t = (st.1, st.2 ++ [t.Id]) := by unfold wStep; rw [h]
theorem wStep_kept {p : Token → Bool} {st : List Token × List Int} {t : Token} (h : (p t || hasB st.2 t.Parent) = false) : wStep p st t = (st.1 ++ [t], st.2) := by unfold wStep; rw [h]
end Go.Proofs.YtoijmnnjcoogkaaDoor
namespace Go.Proofs.YtoijmnnjcoogkaaDoor
open Go.RowKit
theorem forest_sorted {ts : List Token} (hf : forestOk ts = true) : ∀ (n i : Nat) (s t : Token), ts[i]? = some s → ts[i + n + 1]? = some t → s.Id < t.Id
  | 0, i, s, t, hs, ht => by
    have h := okAll_lt (forestOk_all hf) (List.getElem?_eq_some_iff.1 ht).1 hs ht
    simpa [idLt] using h
  | n + 1, i, s, t, hs, ht => by
    have hlt := (List.getElem?_eq_some_iff.1 ht).1
    have hm : ts[i + n + 1]? = some (ts[i + n + 1]'(by omega)) := List.getElem?_eq_getElem _
    have h1 := forest_sorted hf n i s _ hs hm
    have h2 := okAll_lt (forestOk_all hf) (k := i + n + 1) hlt hm ht
    simp only [idLt, decide_eq_true_eq] at h2
    omega
theorem forest_lt {ts : List Token} (hf : forestOk ts = true) {i j : Nat} {s t : Token} (hs : ts[i]? = some s) (ht : ts[j]? = some t) (h : i < j) : s.Id < t.Id := by
  obtain ⟨n, rfl⟩ : ∃ n, j = i + n + 1 := ⟨j - i - 1, by omega⟩
  exact forest_sorted hf n i s t hs ht
theorem forest_inj {ts : List Token} (hf : forestOk ts = true) {i j : Nat} {s t : Token} (hs : ts[i]? = some s) (ht : ts[j]? = some t) (h : s.Id = t.Id) : i = j := by
  rcases Nat.lt_trichotomy i j with h1 | h1 | h1
  · have := forest_lt hf hs ht h1; omega
  · exact h1
  · have := forest_lt hf ht hs h1; omega
theorem idxT_mem {ts : List Token} {k : Nat} {t : Token} (ht : ts[k]? = some t) : 0 ≤ idxT ts t.Id := by
  unfold idxT idxB
  cases hf : ts.findIdx? (hasTok t.Id) with
  | some i => simp
  | none =>
    have := List.findIdx?_eq_none_iff.1 hf t (List.mem_of_getElem? ht)
    simp [hasTok] at this
theorem idxT_self {ts : List Token} (hf : forestOk ts = true) {k : Nat} {t : Token} (ht : ts[k]? = some t) : idxT ts t.Id = k := by
  obtain ⟨i, t', e1, e2, e3⟩ := tok_at (idxT_mem ht)
  rw [e1, forest_inj hf e2 ht e3]
/-- Whether one token is another, or stands below it. -/
def underW (ts : List Token) (top p : Int) : Bool := if p = 0 then false else if p = top then true else if h : 0 ≤ parentId ts p ∧ parentId ts p < p then underW ts top (parentId ts p) else false
termination_by p.toNat
decreasing_by omega
theorem underW_zero (ts : List Token) (top : Int) : underW ts top 0 = false := by rw [underW, if_pos rfl]
theorem underW_top {ts : List Token} {top : Int} (h : top ≠ 0) : underW ts top top = true := by rw [underW, if_neg h, if_pos rfl]
theorem underW_step {ts : List Token} {top p : Int} {i : Nat} {t : Token} (hf : forestOk ts = true) (hp : p ≠ 0) (hne : p ≠ top) (h : idxT ts p = i) (ht : ts[i]? = some t) (hid : t.Id = p) : underW ts top p = underW ts top t.Parent := by
  obtain ⟨h1, h2, h3, h4, _⟩ := forest_tok hf ht
  rw [underW, if_neg hp, if_neg hne, dif_pos (by rw [parentId_at h ht]; omega), parentId_at h ht]
def belowS (ts : List Token) (top : Int) : List Int := (ts.filter (fun t => underW ts top t.Id)).map (·.Id)
def belowK (ts : List Token) (top : Int) (k : Nat) : List Int := ((ts.take k).filter (fun t => underW ts top t.Id)).map (·.Id)
theorem belowK_all {ts : List Token} {top : Int} {k : Nat} (h : ts.length ≤ k) : belowK ts top k = belowS ts top := by unfold belowK belowS; rw [List.take_of_length_le h]
theorem belowK_yes {ts : List Token} {top : Int} {k : Nat} {t : Token} (ht : ts[k]? = some t) (h : underW ts top t.Id = true) : belowK ts top (k + 1) = belowK ts top k ++ [t.Id] := by
  unfold belowK; rw [take_snoc ht, List.filter_append, List.map_append]; congr 1; simp [h]
theorem belowK_no {ts : List Token} {top : Int} {k : Nat} {t : Token} (ht : ts[k]? = some t) (h : underW ts top t.Id = false) : belowK ts top (k + 1) = belowK ts top k := by
  unfold belowK; rw [take_snoc ht, List.filter_append, List.map_append]; simp [h]
theorem hasB_belowK {ts : List Token} {top : Int} {k : Nat} {t : Token} (hf : forestOk ts = true) (ht : ts[k]? = some t) : hasB (belowK ts top k) t.Parent = underW ts top t.Parent := by
  obtain ⟨h1, h2, h3, h4, h5⟩ := forest_tok hf ht
  by_cases h0 : t.Parent = 0
  · rw [h0, underW_zero]
    unfold hasB
    rw [List.any_eq_false]
    intro y hy
    obtain ⟨s, hs, rfl⟩ := List.mem_map.1 hy
    obtain ⟨j, hj, e⟩ := List.mem_iff_getElem.1 (List.mem_of_mem_take (List.mem_filter.1 hs).1)
    have := (forest_tok hf (by rw [List.getElem?_eq_getElem hj, e])).1
    simp; omega
  · obtain ⟨i, s, e1, e2, e3⟩ := tok_at (h5 h0)
    have hik : i < k := by
      rcases Nat.lt_or_ge i k with h | h
      · exact h
      · rcases Nat.eq_or_lt_of_le h with h6 | h6
        · subst h6; rw [ht] at e2; cases e2; omega
        · have := forest_lt hf ht e2 h6; omega
    cases hu : underW ts top t.Parent
    · unfold hasB
      rw [List.any_eq_false]
      intro y hy
      obtain ⟨s', hs, rfl⟩ := List.mem_map.1 hy
      have h7 := (List.mem_filter.1 hs).2
      intro h8
      have h9 : s'.Id = t.Parent := by simpa using h8
      rw [h9, hu] at h7
      cases h7
    · refine hasB_found (k := _) (y := s.Id) (x := t.Parent) ((List.getElem?_eq_some_iff.2 ?_ : (belowK ts top k)[(belowK ts top k).idxOf s.Id]? = some s.Id)) (by rw [e3]; simp)
      have hmem : s.Id ∈ belowK ts top k := by
        refine List.mem_map.2 ⟨s, List.mem_filter.2 ⟨?_, by rw [e3]; exact hu⟩, rfl⟩
        rw [List.mem_take_iff_getElem]
        obtain ⟨q1, q2⟩ := List.getElem?_eq_some_iff.1 e2
        exact ⟨i, by omega, q2⟩
      exact ⟨List.idxOf_lt_length_iff.2 hmem, List.getElem_idxOf _⟩
theorem under_step {ts : List Token} {top : Int} {k : Nat} {t : Token} (hf : forestOk ts = true) (ht : ts[k]? = some t) : (hasTok top t || hasB (belowK ts top k) t.Parent) = underW ts top t.Id := by
  obtain ⟨h1, h2, h3, h4, h5⟩ := forest_tok hf ht
  rw [hasB_belowK hf ht]
  cases hx : hasTok top t
  · have hne : t.Id ≠ top := by simpa [hasTok] using hx
    rw [underW_step hf (by omega) hne (idxT_self hf ht) ht rfl, Bool.false_or]
  · have he : t.Id = top := by simpa [hasTok] using hx
    rw [he, underW_top (by omega), Bool.true_or]
theorem below_alike {ts : List Token} {top : Int} (hf : forestOk ts = true) : ∀ k, k ≤ ts.length → (wFold (hasTok top) (ts.take k)).2 = belowK ts top k
  | 0, _ => rfl
  | k + 1, hk => by
    have ht := List.getElem?_eq_getElem (l := ts) (i := k) (by omega)
    have ih := below_alike hf k (by omega) (top := top)
    have hs := under_step (top := top) hf ht
    rw [wFold_snoc ht]
    cases hu : underW ts top (ts[k]'(by omega)).Id
    · rw [hu, ← ih] at hs
      rw [wStep_kept hs, belowK_no ht hu]
      exact ih
    · rw [hu, ← ih] at hs
      rw [wStep_gone hs, belowK_yes ht hu, ih]
theorem below_same {ts : List Token} {top : Int} (hf : forestOk ts = true) : (wFold (hasTok top) ts).2 = belowS ts top := by
  have := below_alike (top := top) hf ts.length (Nat.le_refl _)
  rw [List.take_length] at this
  rw [this, belowK_all (Nat.le_refl _)]
def belowF (ts : List Token) (id : Int) : List Int := match findOk ts id with | true => belowS ts id | false => []
theorem belowF_no {ts : List Token} {id : Int} (h : findOk ts id = false) : belowF ts id = [] := by unfold belowF; rw [h]
theorem belowF_yes {ts : List Token} {id : Int} (h : findOk ts id = true) : belowF ts id = belowS ts id := by unfold belowF; rw [h]
theorem belowS_len (ts : List Token) (id : Int) : (belowS ts id).length ≤ ts.length := by unfold belowS; rw [List.length_map]; exact List.length_filter_le _ _
theorem belowF_len (ts : List Token) (id : Int) : (belowF ts id).length ≤ ts.length := by
  cases h : findOk ts id
  · rw [belowF_no h]; simp
  · rw [belowF_yes h]; exact belowS_len ts id
end Go.Proofs.YtoijmnnjcoogkaaDoor
namespace Go.Proofs.YtoijmnnjcoogkaaDoor
open Go.RowKit
def noParent (t : Token) : Token := ⟨t.Id, 0, t.Names, t.Made, t.Ends, t.Limit, t.Uses⟩
def orphan (id : Int) (t : Token) : Token := match t.Parent == id with | true => noParent t | false => t
def aloneT (ts : List Token) (id : Int) : List Token := match findOk ts id with | true => (lessT ts [id]).map (orphan id) | false => ts
theorem aloneT_no {ts : List Token} {id : Int} (h : findOk ts id = false) : aloneT ts id = ts := by unfold aloneT; rw [h]
theorem aloneT_yes {ts : List Token} {id : Int} (h : findOk ts id = true) : aloneT ts id = (lessT ts [id]).map (orphan id) := by unfold aloneT; rw [h]
def orphK (xs : List Token) (id : Int) (j : Nat) : List Token := (xs.take j).map (orphan id) ++ xs.drop j
section
variable {xs : List Token} {id : Int} {j : Nat} {t : Token}
theorem orphK_zero (xs : List Token) (id : Int) : orphK xs id 0 = xs := by simp [orphK]
theorem orphK_all (h : xs.length ≤ j) : orphK xs id j = xs.map (orphan id) := by unfold orphK; rw [List.take_of_length_le h, List.drop_eq_nil_of_le h, List.append_nil]
theorem orphK_len (xs : List Token) (id : Int) (j : Nat) : (orphK xs id j).length = xs.length := by unfold orphK; rw [List.length_append, List.length_map, List.length_take, List.length_drop]; omega
theorem orphK_get (h : xs[j]? = some t) : (orphK xs id j)[j]? = some t := by
  obtain ⟨hl, _⟩ := List.getElem?_eq_some_iff.1 h
  unfold orphK
  rw [List.getElem?_append_right (by rw [List.length_map, List.length_take]; omega), List.length_map, List.length_take, Nat.min_eq_left (by omega), Nat.sub_self, List.getElem?_drop]
  exact h
theorem orphK_succ (h : xs[j]? = some t) : orphK xs id (j + 1) = (orphK xs id j).set j (orphan id t) := by
  obtain ⟨hl, he⟩ := List.getElem?_eq_some_iff.1 h
  unfold orphK
  have hL : ((xs.take j).map (orphan id)).length = j := by rw [List.length_map, List.length_take]; omega
  rw [List.set_append_right _ _ (by omega), hL, Nat.sub_self, List.drop_eq_getElem_cons hl, List.set_cons_zero, take_snoc h, List.map_append]
  simp
theorem orphK_yes (h : xs[j]? = some t) (hp : (t.Parent == id) = true) : orphK xs id (j + 1) = (orphK xs id j).set j (noParent t) := by rw [orphK_succ h]; unfold orphan; rw [hp]
theorem orphK_no (h : xs[j]? = some t) (hp : (t.Parent == id) = false) : orphK xs id (j + 1) = orphK xs id j := by
  rw [orphK_succ h]; unfold orphan; rw [hp]
  obtain ⟨hl, he⟩ := List.getElem?_eq_some_iff.1 (orphK_get (id := id) h)
  refine List.ext_getElem? fun i => ?_
  by_cases hi : j = i
  · subst hi; rw [List.getElem?_set_self hl, orphK_get h]
  · rw [List.getElem?_set_ne hi]
end
theorem erase_less {ts : List Token} {id : Int} {i : Nat} {t : Token} (hf : forestOk ts = true) (ht : ts[i]? = some t) (hid : t.Id = id) : ts.eraseIdx i = lessT ts [id] := by
  obtain ⟨hl, he⟩ := List.getElem?_eq_some_iff.1 ht
  have key : ∀ s ∈ ts.take i ++ ts.drop (i + 1), (!hasB [id] s.Id) = true := by
    intro s hs
    have hne : ∃ j, j ≠ i ∧ ts[j]? = some s := by
      rcases List.mem_append.1 hs with h | h
      · obtain ⟨j, hj, e⟩ := List.mem_iff_getElem.1 h
        rw [List.getElem_take] at e
        rw [List.length_take] at hj
        exact ⟨j, by omega, by rw [List.getElem?_eq_getElem (by omega), e]⟩
      · obtain ⟨j, hj, e⟩ := List.mem_iff_getElem.1 h
        rw [List.getElem_drop] at e
        rw [List.length_drop] at hj
        exact ⟨i + 1 + j, by omega, by rw [List.getElem?_eq_getElem (by omega), e]⟩
    obtain ⟨j, hj, e⟩ := hne
    simp only [hasB, List.any_cons, List.any_nil, Bool.or_false, Bool.not_eq_true', beq_eq_false_iff_ne, ne_eq]
    intro h
    exact hj (forest_inj hf e ht (by rw [← h, hid]))
  have hts : ts = ts.take i ++ (t :: ts.drop (i + 1)) := by
    conv => lhs; rw [← List.take_append_drop i ts, List.drop_eq_getElem_cons hl, he]
  unfold lessT
  conv => rhs; rw [hts]
  rw [List.filter_append, List.filter_cons_of_neg (by simp [hasB, hid]), ← List.filter_append, List.filter_eq_self.2 key, List.eraseIdx_eq_take_drop_succ]
theorem lessT_sz (ts : List Token) (gone : List Int) : szList TokenR (lessT ts gone) ≤ szList TokenR ts := by
  unfold lessT
  induction ts with
  | nil => exact Nat.le_refl _
  | cons x xs ih =>
    unfold szList at ih ⊢
    have h1 : (x :: xs).filter (fun t => !hasB gone t.Id) = if (!hasB gone x.Id) = true then x :: xs.filter (fun t => !hasB gone t.Id) else xs.filter (fun t => !hasB gone t.Id) := List.filter_cons
    rw [h1]
    split
    · rw [List.map_cons, List.sum_cons, List.length_cons, List.map_cons, List.sum_cons, List.length_cons]; omega
    · rw [List.map_cons, List.sum_cons, List.length_cons]; omega
theorem aloneT_sz (ts : List Token) (id : Int) : szList TokenR (aloneT ts id) ≤ szList TokenR ts := by
  cases h : findOk ts id
  · rw [aloneT_no h]; exact Nat.le_refl _
  · rw [aloneT_yes h]
    have h1 := lessT_sz ts [id]
    have h2 : szList TokenR ((lessT ts [id]).map (orphan id)) = szList TokenR (lessT ts [id]) := by
      unfold szList
      rw [List.length_map, List.map_map]
      congr 2
      refine List.map_congr_left fun t _ => ?_
      show TokenR.sz (orphan id t) = TokenR.sz t
      unfold orphan
      cases t.Parent == id
      · rfl
      · simp only [sz_Token, noParent]
    omega
end Go.Proofs.YtoijmnnjcoogkaaDoor
namespace Go.Proofs.YtoijmnnjcoogkaaDoor
open Go.RowKit
theorem hasB_snoc (xs : List Int) (y x : Int) : hasB (xs ++ [y]) x = (hasB xs x || (y == x)) := by unfold hasB; rw [List.any_append]; simp
theorem wFold_ids {p : Token → Bool} {ts : List Token} : ∀ k, ∀ y ∈ (wFold p (ts.take k)).2, ∃ j s, j < k ∧ ts[j]? = some s ∧ s.Id = y
  | 0, y, h => by simp [wFold] at h
  | k + 1, y, h => by
    cases ht : ts[k]? with
    | none =>
      rw [List.take_of_length_le (Nat.le_succ_of_le (List.getElem?_eq_none_iff.1 ht)), ← List.take_of_length_le (List.getElem?_eq_none_iff.1 ht)] at h
      obtain ⟨j, s, h1, h2⟩ := wFold_ids k y h
      exact ⟨j, s, by omega, h2⟩
    | some t =>
      rw [wFold_snoc ht] at h
      cases hx : p t || hasB (wFold p (ts.take k)).2 t.Parent
      · rw [wStep_kept hx] at h
        obtain ⟨j, s, h1, h2⟩ := wFold_ids k y h
        exact ⟨j, s, by omega, h2⟩
      · rw [wStep_gone hx] at h
        rcases List.mem_append.1 h with h | h
        · obtain ⟨j, s, h1, h2⟩ := wFold_ids k y h
          exact ⟨j, s, by omega, h2⟩
        · rw [List.mem_singleton.1 h]
          exact ⟨k, t, by omega, ht, rfl⟩
theorem hasB_mem {xs : List Int} {x : Int} : hasB xs x = true ↔ x ∈ xs := by
  unfold hasB
  rw [List.any_eq_true]
  exact ⟨fun ⟨y, h1, h2⟩ => by rw [← (by simpa using h2 : y = x)]; exact h1, fun h => ⟨x, h, by simp⟩⟩
theorem wFold_new {p : Token → Bool} {ts : List Token} (hf : forestOk ts = true) {k : Nat} {t : Token} (ht : ts[k]? = some t) : hasB (wFold p (ts.take k)).2 t.Id = false := by
  cases h : hasB (wFold p (ts.take k)).2 t.Id
  · rfl
  · obtain ⟨j, s, h1, h2, h3⟩ := wFold_ids k _ (hasB_mem.1 h)
    have := forest_inj hf h2 ht h3
    omega
theorem lessT_more {ts : List Token} (hf : forestOk ts = true) {k : Nat} {t : Token} (ht : ts[k]? = some t) (gone : List Int) : lessT (ts.take k) (gone ++ [t.Id]) = lessT (ts.take k) gone := by
  unfold lessT
  refine List.filter_congr fun s hs => ?_
  obtain ⟨j, hj, e⟩ := List.mem_iff_getElem.1 hs
  rw [List.getElem_take] at e
  rw [List.length_take] at hj
  have hne : (t.Id == s.Id) = false := by
    rw [beq_eq_false_iff_ne]
    intro h
    have := forest_inj hf (i := j) (j := k) (by rw [List.getElem?_eq_getElem (by omega), e]) ht h.symm
    omega
  rw [hasB_snoc, hne, Bool.or_false]
theorem wFold_kept {p : Token → Bool} {ts : List Token} (hf : forestOk ts = true) : ∀ k, k ≤ ts.length → (wFold p (ts.take k)).1 = lessT (ts.take k) (wFold p (ts.take k)).2
  | 0, _ => rfl
  | k + 1, hk => by
    have ht := List.getElem?_eq_getElem (l := ts) (i := k) (by omega)
    have ih := wFold_kept (p := p) hf k (by omega)
    rw [wFold_snoc ht]
    cases hx : p (ts[k]'(by omega)) || hasB (wFold p (ts.take k)).2 (ts[k]'(by omega)).Parent
    · rw [wStep_kept hx, lessT_kept ht (wFold_new hf ht), ih]
    · rw [wStep_gone hx, lessT_gone ht (by rw [hasB_snoc]; simp), lessT_more hf ht, ih]
theorem wFold_less {p : Token → Bool} {ts : List Token} (hf : forestOk ts = true) : (wFold p ts).1 = lessT ts (wFold p ts).2 := by
  have := wFold_kept (p := p) hf ts.length (Nat.le_refl _)
  rwa [List.take_length] at this
theorem lessT_nil (ts : List Token) : lessT ts [] = ts := by unfold lessT; rw [List.filter_eq_self]; intro t _; rfl
theorem under_found {ts : List Token} {top : Int} (hf : forestOk ts = true) : ∀ (n : Nat) (p : Int), p.toNat ≤ n → 0 ≤ p → (p ≠ 0 → 0 ≤ idxT ts p) → underW ts top p = true → 0 ≤ idxT ts top
  | 0, p, h, h0, _, hu => by
    have : p = 0 := by omega
    rw [this, underW_zero] at hu
    cases hu
  | n + 1, p, h, h0, hx, hu => by
    by_cases hp : p = 0
    · rw [hp, underW_zero] at hu; cases hu
    · by_cases ht : p = top
      · rw [← ht]; exact hx hp
      · obtain ⟨i, t, e1, e2, e3⟩ := tok_at (hx hp)
        rw [underW_step hf hp ht e1 e2 e3] at hu
        obtain ⟨h1, h2, h3, h4, h5⟩ := forest_tok hf e2
        exact under_found hf n t.Parent (by omega) h3 h5 hu
theorem belowS_none {ts : List Token} {id : Int} (hf : forestOk ts = true) (h : idxT ts id < 0) : belowS ts id = [] := by
  unfold belowS
  rw [List.filter_eq_nil_iff.2, List.map_nil]
  intro t ht hu
  obtain ⟨j, hj, e⟩ := List.mem_iff_getElem.1 ht
  have hq : ts[j]? = some t := by rw [List.getElem?_eq_getElem hj, e]
  have h1 := (forest_tok hf hq).1
  have := under_found hf t.Id.toNat t.Id (Nat.le_refl _) (by omega) (fun _ => idxT_mem hq) hu
  omega
theorem belowS_some {ts : List Token} {id : Int} (hf : forestOk ts = true) (h : 0 ≤ idxT ts id) : 0 < (belowS ts id).length := by
  obtain ⟨i, t, e1, e2, e3⟩ := tok_at h
  have h1 := (forest_tok hf e2).1
  have : t.Id ∈ belowS ts id := by
    unfold belowS
    refine List.mem_map.2 ⟨t, List.mem_filter.2 ⟨List.mem_of_getElem? e2, ?_⟩, rfl⟩
    rw [e3, underW_top (by omega)]
  exact List.length_pos_of_mem this
def revT (ts : List Token) (id : Int) : List Token := match forestOk ts with | true => lessT ts (belowS ts id) | false => ts
def revI (ts : List Token) (id : Int) : List Int := match forestOk ts with | true => belowS ts id | false => []
theorem rev_bad {ts : List Token} {id : Int} (h : forestOk ts = false) : revT ts id = ts ∧ revI ts id = [] := by unfold revT revI; rw [h]; exact ⟨rfl, rfl⟩
theorem rev_ok {ts : List Token} {id : Int} (h : forestOk ts = true) : revT ts id = lessT ts (belowS ts id) ∧ revI ts id = belowS ts id := by unfold revT revI; rw [h]; exact ⟨rfl, rfl⟩
theorem rev_fold {ts : List Token} {id : Int} (h : forestOk ts = true) : (wFold (hasTok id) ts).1 = revT ts id ∧ (wFold (hasTok id) ts).2 = revI ts id := by rw [(rev_ok h).1, (rev_ok h).2, ← below_same h]; exact ⟨wFold_less h, rfl⟩
theorem rev_none {ts : List Token} {id : Int} (h : belowF ts id = []) : revT ts id = ts ∧ revI ts id = [] := by
  cases hf : forestOk ts
  · exact rev_bad hf
  · rw [(rev_ok hf).1, (rev_ok hf).2]
    by_cases hx : idxT ts id < 0
    · rw [belowS_none hf hx, lessT_nil]; exact ⟨rfl, rfl⟩
    · obtain ⟨i, t, e1, e2, e3⟩ := tok_at (Int.not_lt.1 hx)
      rw [belowF_yes (findOk_at hf e1)] at h
      have := belowS_some hf (Int.not_lt.1 hx)
      rw [h] at this
      cases this
theorem rev_some {ts : List Token} {id : Int} (h : 0 < (belowF ts id).length) : revT ts id = lessT ts (belowF ts id) ∧ revI ts id = belowF ts id := by
  cases hk : findOk ts id
  · rw [belowF_no hk] at h; cases h
  · have hf : forestOk ts = true := by unfold findOk at hk; simp only [Bool.and_eq_true] at hk; exact hk.1
    rw [belowF_yes hk]
    exact rev_ok hf
def overP (now : Int) (t : Token) : Bool := overB t.Ends now
def sweepT (ts : List Token) (now : Int) : List Token := match forestOk ts with | true => (wFold (overP now) ts).1 | false => ts
def sweepI (ts : List Token) (now : Int) : List Int := match forestOk ts with | true => (wFold (overP now) ts).2 | false => []
theorem sweep_bad {ts : List Token} {now : Int} (h : forestOk ts = false) : sweepT ts now = ts ∧ sweepI ts now = [] := by unfold sweepT sweepI; rw [h]; exact ⟨rfl, rfl⟩
theorem sweep_ok {ts : List Token} {now : Int} (h : forestOk ts = true) : sweepT ts now = (wFold (overP now) ts).1 ∧ sweepI ts now = (wFold (overP now) ts).2 := by unfold sweepT sweepI; rw [h]; exact ⟨rfl, rfl⟩
theorem sweep_less {ts : List Token} {now : Int} (h : forestOk ts = true) : sweepT ts now = lessT ts (sweepI ts now) := by rw [(sweep_ok h).1, (sweep_ok h).2]; exact wFold_less h
/-- No token has the Id 0. -/
theorem wFold_zero {p : Token → Bool} {ts : List Token} (hf : forestOk ts = true) (k : Nat) : hasB (wFold p (ts.take k)).2 0 = false := by
  cases h : hasB (wFold p (ts.take k)).2 0
  · rfl
  · obtain ⟨j, s, h1, h2, h3⟩ := wFold_ids k _ (hasB_mem.1 h)
    have := (forest_tok hf h2).1
    omega
theorem wFold_len (p : Token → Bool) (ts : List Token) : ∀ st : List Token × List Int, (ts.foldl (wStep p) st).1.length + (ts.foldl (wStep p) st).2.length = st.1.length + st.2.length + ts.length := by
  induction ts with
  | nil => intro st; simp
  | cons t ts ih =>
    intro st
    rw [List.foldl_cons, ih]
    unfold wStep
    cases p t || hasB st.2 t.Parent <;> simp <;> omega
theorem revI_len (ts : List Token) (id : Int) : (revI ts id).length ≤ ts.length := by
  cases h : forestOk ts
  · rw [(rev_bad h).2]; simp
  · rw [(rev_ok h).2]; exact belowS_len ts id
theorem sweepI_len (ts : List Token) (now : Int) : (sweepI ts now).length ≤ ts.length := by
  cases h : forestOk ts
  · rw [(sweep_bad h).2]; simp
  · rw [(sweep_ok h).2]
    have := wFold_len (overP now) ts ([], [])
    unfold wFold
    simp only [List.length_nil] at this
    omega
theorem revT_sz (ts : List Token) (id : Int) : szList TokenR (revT ts id) ≤ szList TokenR ts := by
  cases h : forestOk ts
  · rw [(rev_bad h).1]; exact Nat.le_refl _
  · rw [(rev_ok h).1]; exact lessT_sz _ _
theorem sweepT_sz (ts : List Token) (now : Int) : szList TokenR (sweepT ts now) ≤ szList TokenR ts := by
  cases h : forestOk ts
  · rw [(sweep_bad h).1]; exact Nat.le_refl _
  · rw [sweep_less h]; exact lessT_sz _ _
end Go.Proofs.YtoijmnnjcoogkaaDoor

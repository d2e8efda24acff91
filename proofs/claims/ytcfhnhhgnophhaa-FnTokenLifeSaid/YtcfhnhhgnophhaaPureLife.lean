/- What FnTokenLife says of forests, as plain data. -/
import Derived.Test.YtcfhnhhgnophhaaPkFam
import Derived.Test.YtcfhnhhgnophhaaPkUse
set_option linter.unusedSimpArgs false
set_option linter.unusedVariables false
set_option maxRecDepth 20000
namespace Go.Proofs.Ytcfhnhhgnophhaa
open Go.RowKit
theorem make_parts {ts : List Token} {t : Token} (h : MakeC ts t = 0) : forestOk ts = true ∧ tokOk t = true ∧ lastBig ts t = false ∧ parentOk ts t = true ∧ ts.length < 120 ∧ MakeT ts t = ts ++ [t] := by
  cases hf : forestOk ts
  · rw [(Make_bad hf).1] at h; cases h
  obtain ⟨g1, g2⟩ := Make_good (t := t) hf
  rw [g1] at h
  rw [g2, makeT_yes h]
  have hk := makeC_tok h
  have hlen := forestOk_len hf
  cases hl : lastBig ts t
  rotate_left
  · rw [(make_bad2 hl).1] at h; cases h
  have hfull : makeC ts t = fullC ts → ts.length < 120 := fun e => by
    by_cases hn : ts.length = 120
    · rw [e] at h
      unfold fullC at h
      rw [show (ts.length == 120) = true by simpa using hn] at h
      cases h
    · omega
  unfold parentOk
  cases hp : t.Parent == 0
  rotate_left
  · exact ⟨rfl, hk, rfl, rfl, hfull (make_top hk hl hp), rfl⟩
  by_cases hx : idxT ts t.Parent < 0
  · rw [(make_none hk hl hp hx).1] at h; cases h
  obtain ⟨i, s, e1, e2, e3⟩ := tok_at (by omega : 0 ≤ idxT ts t.Parent)
  cases ho : overB s.Ends t.Made
  rotate_left
  · rw [(make_over hk hl hp e1 e2 ho).1] at h; cases h
  cases hm : missT t.Names s.Names
  rotate_left
  · rw [(make_miss hk hl hp e1 e2 ho hm).1] at h; cases h
  exact ⟨rfl, hk, rfl, by rw [Bool.false_or, decide_eq_true_eq]; omega, hfull (make_fits hk hl hp e1 e2 ho hm), rfl⟩
theorem snoc_ok {ts : List Token} {s : Token} (hf : forestOk ts = true) (hs : tokOk s = true) (hl : lastBig ts s = false) (hp : parentOk ts s = true) (hn : ts.length < 120) : forestOk (ts ++ [s]) = true := by
  have hpar : ∀ x : Token, parentOk ts x = true → parentOk (ts ++ [s]) x = true := fun x hx => by
    unfold parentOk at hx ⊢
    cases h0 : x.Parent == 0
    · rw [h0, Bool.false_or, decide_eq_true_eq] at hx
      obtain ⟨i, q, e1, e2, e3⟩ := tok_at hx
      rw [Bool.false_or, decide_eq_true_eq, ← e3]
      refine idxT_mem (k := i) ?_
      rw [List.getElem?_append_left (List.getElem?_eq_some_iff.1 e2).1]
      exact e2
    · rfl
  unfold forestOk
  rw [Bool.and_eq_true, decide_eq_true_eq]
  refine ⟨by rw [List.length_append, List.length_singleton]; omega, okAll_of (fun x hx => ?_) ?_⟩
  · unfold inForest
    rw [Bool.and_eq_true]
    rcases List.mem_append.1 hx with h | h
    · have h3 := forest_in hf h
      unfold inForest at h3
      rw [Bool.and_eq_true] at h3
      exact ⟨h3.1, hpar x h3.2⟩
    · rw [List.mem_singleton.1 h]
      exact ⟨hs, hpar s hp⟩
  · rw [List.pairwise_append]
    refine ⟨forest_pair hf, List.pairwise_singleton .., fun a ha b hb => ?_⟩
    rw [List.mem_singleton.1 hb]
    obtain ⟨i, hi, rfl⟩ := List.mem_iff_getElem.1 ha
    have hlast := List.getElem?_eq_getElem (l := ts) (i := ts.length - 1) (by omega)
    rw [lastBig_at hlast] at hl
    have h1 : ¬ s.Id ≤ (ts[ts.length - 1]'(by omega)).Id := by simpa using hl
    unfold idLt
    rw [decide_eq_true_eq]
    by_cases h2 : i = ts.length - 1
    · subst h2; omega
    · have := forest_lt hf (List.getElem?_eq_getElem hi) hlast (by omega)
      omega
theorem snoc_at (ts : List Token) (s : Token) : (ts ++ [s])[ts.length]? = some s := by rw [List.getElem?_append_right (Nat.le_refl _), Nat.sub_self]; rfl
theorem snoc_find {ts : List Token} {s : Token} (hf : forestOk (ts ++ [s]) = true) : idxT (ts ++ [s]) s.Id = (ts.length : Nat) ∧ findOk (ts ++ [s]) s.Id = true ∧ findTok (ts ++ [s]) s.Id = s := by
  have h := idxT_self hf (snoc_at ts s)
  exact ⟨h, findOk_at hf h, findTok_at hf h (snoc_at ts s)⟩
theorem snoc_sz (ts : List Token) {s : Token} (hs : tokOk s = true) : szList TokenR (ts ++ [s]) ≤ szList TokenR ts + 79 := by
  have h1 := tokOk_sz hs
  unfold szList
  simp only [List.length_append, List.map_append, List.sum_append, List.length_cons, List.length_nil, List.map_cons, List.map_nil, List.sum_cons, List.sum_nil]
  omega
theorem tokOk_parts {t : Token} (h : tokOk t = true) : (0 ≤ t.Made ∧ t.Made ≤ 1000000000) ∧ (t.Ends = 0 ∨ t.Made + 1 ≤ t.Ends ∧ t.Ends ≤ 1000000000) ∧ (t.Limit = 0 ∨ t.Made + 1 ≤ t.Limit ∧ t.Limit ≤ 1000000000 ∧ t.Ends ≠ 0) ∧ 0 ≤ t.Uses ∧ t.Uses ≤ 1000 := by
  unfold tokOk at h
  simp only [Bool.and_eq_true] at h
  obtain ⟨h1, h2, h3, h4, h5, h6, h7⟩ := h
  refine ⟨withinB_iff.1 h4, ?_, ?_, withinB_iff.1 h7⟩
  · unfold endsOk at h5
    rw [Bool.or_eq_true] at h5
    rcases h5 with h5 | h5
    · exact .inl (by simpa using h5)
    · exact .inr (withinB_iff.1 h5)
  · unfold limitOk at h6
    rw [Bool.or_eq_true] at h6
    rcases h6 with h6 | h6
    · exact .inl (by simpa using h6)
    · rw [Bool.and_eq_true, Bool.and_eq_true] at h6
      have := withinB_iff.1 h6.1
      exact .inr ⟨this.1, this.2, by simpa [bne] using h6.2.1⟩
theorem tokOk_withUses {t : Token} (h : tokOk t = true) {u : Int} (h0 : 0 ≤ u) (h1 : u ≤ 1000) : tokOk (withUses t u) = true := by
  unfold tokOk at h ⊢
  simp only [Bool.and_eq_true] at h ⊢
  obtain ⟨a1, a2, a3, a4, a5, a6, a7⟩ := h
  exact ⟨a1, a2, a3, a4, a5, a6, withinB_iff.2 ⟨h0, h1⟩⟩
theorem tokOk_withEnds {t : Token} (h : tokOk t = true) {e : Int} (h0 : t.Made + 1 ≤ e) (h1 : e ≤ 1000000000) (h2 : t.Limit = 0 ∨ e ≤ t.Limit) : tokOk (withEnds t e) = true := by
  have hp := tokOk_parts h
  unfold tokOk at h ⊢
  simp only [Bool.and_eq_true] at h ⊢
  obtain ⟨a1, a2, a3, a4, a5, a6, a7⟩ := h
  refine ⟨a1, a2, a3, a4, ?_, ?_, a7⟩
  · unfold endsOk
    rw [Bool.or_eq_true]
    exact .inr (withinB_iff.2 ⟨h0, h1⟩)
  · unfold limitOk
    rw [Bool.or_eq_true]
    rcases hp.2.2.1 with h3 | h3
    · exact .inl (by show (t.Limit == 0) = true; simpa using h3)
    · right
      rw [Bool.and_eq_true, Bool.and_eq_true]
      refine ⟨withinB_iff.2 ⟨h3.1, h3.2.1⟩, ?_, ?_⟩
      · show (e != 0) = true
        have : e ≠ 0 := by omega
        simpa [bne] using this
      · show decide (e ≤ t.Limit) = true
        rw [decide_eq_true_eq]
        rcases h2 with h2 | h2
        · omega
        · exact h2
theorem not_late {t : Token} (h : tokOk t = true) : lateB t t.Made = false := by
  have hp := tokOk_parts h
  unfold lateB overB
  rw [Bool.or_eq_false_iff]
  refine ⟨?_, by simp⟩
  rcases hp.2.1 with h1 | h1
  · rw [h1]; rfl
  · rw [decide_eq_false (by omega), Bool.and_false]
theorem endsNew_le {t : Token} (h : tokOk t = true) {by_ : Int} (hb : 1 ≤ by_) : t.Made + 1 ≤ endsNew t t.Made by_ ∧ (t.Limit = 0 ∨ endsNew t t.Made by_ ≤ t.Limit) := by
  have hp := tokOk_parts h
  unfold endsNew
  cases hl : (t.Limit != 0 && decide (t.Limit < t.Made + by_))
  · simp only
    refine ⟨by omega, ?_⟩
    rw [Bool.and_eq_false_iff] at hl
    rcases hl with hl | hl
    · exact .inl (by simpa [bne] using hl)
    · right; have : ¬ t.Limit < t.Made + by_ := by simpa using hl
      omega
  · simp only
    rw [Bool.and_eq_true] at hl
    have h0 : t.Limit ≠ 0 := by simpa [bne] using hl.1
    exact ⟨by omega, .inr (Int.le_refl _)⟩
/-- The token is found with its new end. -/
theorem life_renew {ts : List Token} {t : Token} (h : MakeC ts t = 0) {by_ : Int} (hb : 1 ≤ by_) (hb2 : by_ ≤ 1000000000) (he : endsNew t t.Made by_ ≤ 1000000000) : RenewC (ts ++ [t]) t.Id t.Made by_ = 0 ∧ RenewT (ts ++ [t]) t.Id t.Made by_ = ts ++ [withEnds t (endsNew t t.Made by_)] ∧ (findTok (ts ++ [withEnds t (endsNew t t.Made by_)]) t.Id).Ends = endsNew t t.Made by_ := by
  obtain ⟨hf, hk, hl, hp, hn, -⟩ := make_parts h
  have hf2 := snoc_ok hf hk hl hp hn
  have hp2 := tokOk_parts hk
  obtain ⟨e1, e2⟩ := endsNew_le hk hb
  have hg : renewGood (ts ++ [t]) t.Made by_ = true := by
    unfold renewGood
    rw [hf2, withinB_iff.2 hp2.1, withinB_iff.2 ⟨hb, hb2⟩]
    rfl
  obtain ⟨r1, r2⟩ := Renew_good (id := t.Id) hg
  obtain ⟨i1, -, -⟩ := snoc_find hf2
  obtain ⟨d1, d2⟩ := renew_done (now := t.Made) (by_ := by_) i1 (snoc_at ts t) (not_late hk) (by omega)
  refine ⟨by rw [r1, d1], ?_, ?_⟩
  · rw [r2, d2, List.set_append_right _ _ (Nat.le_refl _), Nat.sub_self]
    rfl
  · have hk3 := tokOk_withEnds hk e1 he e2
    have hf3 := snoc_ok (s := withEnds t (endsNew t t.Made by_)) hf hk3 hl hp hn
    have := (snoc_find hf3).2.2
    rw [show t.Id = (withEnds t (endsNew t t.Made by_)).Id from rfl, this]
    rfl
/-- The forest after k uses of the new token. -/
def lifeG (ts : List Token) (t : Token) (k : Nat) : List Token := match decide ((k : Int) < t.Uses) with
  | true => ts ++ [withUses t (t.Uses - k)]
  | false => lessT (ts ++ [withUses t 1]) (belowS (ts ++ [withUses t 1]) t.Id)
theorem lifeG_lt (ts : List Token) {t : Token} {k : Nat} (h : (k : Int) < t.Uses) : lifeG ts t k = ts ++ [withUses t (t.Uses - k)] := by unfold lifeG; rw [decide_eq_true h]
theorem lifeG_ge (ts : List Token) {t : Token} {k : Nat} (h : ¬ (k : Int) < t.Uses) : lifeG ts t k = lessT (ts ++ [withUses t 1]) (belowS (ts ++ [withUses t 1]) t.Id) := by unfold lifeG; rw [decide_eq_false h]
theorem life_start (ts : List Token) {t : Token} (h : 0 < t.Uses) : lifeG ts t 0 = ts ++ [t] := by
  rw [lifeG_lt ts (by simpa using h)]
  simp [withUses]
theorem life_use {ts : List Token} {t : Token} (h : MakeC ts t = 0) {k : Nat} (hku : (k : Int) < t.Uses) : UseC (lifeG ts t k) t.Id t.Made = 0 ∧ UseT (lifeG ts t k) t.Id t.Made = lifeG ts t (k + 1) := by
  obtain ⟨hf, hk, hl, hp, hn, -⟩ := make_parts h
  have hp2 := tokOk_parts hk
  have hk2 := tokOk_withUses hk (u := t.Uses - k) (by omega) (by omega)
  have hf2 := snoc_ok (s := withUses t (t.Uses - k)) hf hk2 hl hp hn
  have hnl : lateB (withUses t (t.Uses - k)) t.Made = false := not_late (t := withUses t (t.Uses - k)) hk2
  rw [lifeG_lt ts hku]
  have hg : useGood (ts ++ [withUses t (t.Uses - k)]) t.Made = true := by
    unfold useGood
    rw [hf2, withinB_iff.2 hp2.1]
    rfl
  obtain ⟨r1, r2⟩ := Use_good (id := t.Id) hg
  have i1 : idxT (ts ++ [withUses t (t.Uses - k)]) t.Id = (ts.length : Nat) := (snoc_find hf2).1
  by_cases hu : t.Uses - k = 1
  · obtain ⟨d1, d2⟩ := use_last i1 (snoc_at ts _) hnl (by show (t.Uses - k == 1) = true; simpa using hu)
    refine ⟨by rw [r1, d1], ?_⟩
    rw [r2, d2, lifeG_ge ts (by omega), hu]
  · obtain ⟨d1, d2⟩ := use_more i1 (snoc_at ts _) hnl (by show (t.Uses - k == 1) = false; simpa using hu) (by show 1 < t.Uses - k; omega)
    refine ⟨by rw [r1, d1], ?_⟩
    rw [r2, d2, lifeG_lt ts (by omega), List.set_append_right _ _ (Nat.le_refl _), Nat.sub_self]
    have e : t.Uses - ((k + 1 : Nat) : Int) = t.Uses - k - 1 := by omega
    rw [e]
    rfl
theorem life_end {ts : List Token} {t : Token} (h : MakeC ts t = 0) {k : Nat} (hku : ¬ (k : Int) < t.Uses) : findOk (lifeG ts t k) t.Id = false := by
  obtain ⟨hf, hk, hl, hp, hn, -⟩ := make_parts h
  have hk2 := tokOk_withUses hk (u := 1) (by omega) (by omega)
  have hf2 := snoc_ok (s := withUses t 1) hf hk2 hl hp hn
  rw [lifeG_ge ts hku]
  refine findOk_none ?_
  by_cases hx : idxT (lessT (ts ++ [withUses t 1]) (belowS (ts ++ [withUses t 1]) t.Id)) t.Id < 0
  · exact hx
  · obtain ⟨i, s, e1, e2, e3⟩ := tok_at (by omega : 0 ≤ idxT (lessT (ts ++ [withUses t 1]) (belowS (ts ++ [withUses t 1]) t.Id)) t.Id)
    obtain ⟨m1, m2⟩ := lessT_mem (List.mem_of_getElem? e2)
    have := below_closed (id := t.Id) hf2 m1
    rw [m2, e3] at this
    simp at this
theorem life_sz {ts : List Token} {t : Token} (h : MakeC ts t = 0) (k : Nat) : szList TokenR (lifeG ts t k) ≤ szList TokenR ts + 79 := by
  obtain ⟨hf, hk, hl, hp, hn, -⟩ := make_parts h
  have hp2 := tokOk_parts hk
  by_cases hku : (k : Int) < t.Uses
  · rw [lifeG_lt ts hku]
    exact snoc_sz ts (tokOk_withUses hk (by omega) (by omega))
  · rw [lifeG_ge ts hku]
    exact Nat.le_trans (lessT_sz _ _) (snoc_sz ts (tokOk_withUses hk (by omega) (by omega)))
theorem life_renew_sz {ts : List Token} {t : Token} {by_ : Int} (h : MakeC ts t = 0) : szList TokenR (RenewT (ts ++ [t]) t.Id t.Made by_) ≤ 2 * (szList TokenR ts + 79) := by
  obtain ⟨hf, hk, hl, hp, hn, -⟩ := make_parts h
  have h1 := RenewT_sz (ts ++ [t]) t.Id t.Made by_
  have h2 := snoc_sz ts hk
  omega
end Go.Proofs.Ytcfhnhhgnophhaa

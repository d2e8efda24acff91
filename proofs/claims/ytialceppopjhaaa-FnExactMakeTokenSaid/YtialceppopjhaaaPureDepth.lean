/- Forests as plain data: parents; the depth of a token. -/
import Derived.Test.YtialceppopjhaaaPureForest
set_option linter.unusedSimpArgs false
set_option linter.unusedVariables false
namespace Go.Proofs.Ytialceppopjhaaa
open Go.RowKit
theorem tok_at {ts : List Token} {id : Int} (h : 0 ≤ idxT ts id) : ∃ (i : Nat) (t : Token), idxT ts id = i ∧ ts[i]? = some t ∧ t.Id = id := by
  unfold idxT idxB at *
  cases hf : ts.findIdx? (hasTok id) with
  | none => rw [hf] at h; simp at h
  | some i =>
    obtain ⟨h1, h2, _⟩ := List.findIdx?_eq_some_iff_getElem.1 hf
    exact ⟨i, _, rfl, List.getElem?_eq_getElem h1, by simpa [hasTok] using h2⟩
theorem idxT_small {ts : List Token} {id : Int} {i : Nat} (h : idxT ts id = i) : i < ts.length := by
  rcases idxT_le ts id with h1 | h1 <;> omega
theorem tok_facts {t : Token} (h : tokOk t = true) : 1 ≤ t.Id ∧ t.Id ≤ 1000000000 ∧ 0 ≤ t.Parent ∧ t.Parent < t.Id := by
  simp only [tokOk, Bool.and_eq_true, withinB_iff] at h
  obtain ⟨⟨h1, h2⟩, ⟨h3, h4⟩, _⟩ := h
  omega
theorem forest_tok {ts : List Token} {i : Nat} {t : Token} (hf : forestOk ts = true) (ht : ts[i]? = some t) : 1 ≤ t.Id ∧ t.Id ≤ 1000000000 ∧ 0 ≤ t.Parent ∧ t.Parent < t.Id ∧ (t.Parent ≠ 0 → 0 ≤ idxT ts t.Parent) := by
  have h := okAll_get (forestOk_all hf) (List.getElem?_eq_some_iff.1 ht).1 ht
  simp only [inForest, Bool.and_eq_true, parentOk, Bool.or_eq_true, beq_iff_eq, decide_eq_true_eq] at h
  obtain ⟨h1, h2, h3, h4⟩ := tok_facts h.1
  exact ⟨h1, h2, h3, h4, fun h5 => by rcases h.2 with h6 | h6; exact absurd h6 h5; omega⟩
def parentId (ts : List Token) (id : Int) : Int := match ts[(idxT ts id).toNat]? with | some t => t.Parent | none => 0
theorem parentId_at {ts : List Token} {id : Int} {i : Nat} {t : Token} (h : idxT ts id = i) (ht : ts[i]? = some t) : parentId ts id = t.Parent := by
  unfold parentId
  rw [h, Int.toNat_natCast, ht]
/-- How many steps it takes from a token's Parent up to the top. -/
def depthW (ts : List Token) (p : Int) : Nat := if p = 0 then 0 else if h : 0 ≤ parentId ts p ∧ parentId ts p < p then 1 + depthW ts (parentId ts p) else 1
termination_by p.toNat
decreasing_by omega
theorem depthW_zero (ts : List Token) : depthW ts 0 = 0 := by rw [depthW, if_pos rfl]
theorem depthW_step {ts : List Token} {p : Int} {i : Nat} {t : Token} (hf : forestOk ts = true) (hp : p ≠ 0) (h : idxT ts p = i) (ht : ts[i]? = some t) (hid : t.Id = p) : depthW ts p = 1 + depthW ts t.Parent := by
  obtain ⟨h1, h2, h3, h4, _⟩ := forest_tok hf ht
  rw [depthW, if_neg hp, dif_pos (by rw [parentId_at h ht]; omega), parentId_at h ht]
def depthF (ts : List Token) (id : Int) : Int := match forestOk ts && decide (0 ≤ idxT ts id) with | true => (depthW ts (parentId ts id) : Nat) | false => -1
theorem depthF_bad {ts : List Token} {id : Int} (h : forestOk ts = false) : depthF ts id = -1 := by unfold depthF; rw [h]; rfl
theorem depthF_none {ts : List Token} {id : Int} (h : idxT ts id < 0) : depthF ts id = -1 := by unfold depthF; rw [decide_eq_false (by omega : ¬ 0 ≤ idxT ts id), Bool.and_false]
theorem depthF_at {ts : List Token} {id : Int} {i : Nat} {t : Token} (hf : forestOk ts = true) (h : idxT ts id = i) (ht : ts[i]? = some t) : depthF ts id = (depthW ts t.Parent : Nat) := by
  unfold depthF
  rw [hf, decide_eq_true (by omega : 0 ≤ idxT ts id), parentId_at h ht]
  rfl
def idAt (ts : List Token) (k : Nat) : Nat := match ts[k]? with | some t => t.Id.toNat | none => 0
theorem idAt_eq {ts : List Token} {k : Nat} {t : Token} (h : ts[k]? = some t) : idAt ts k = t.Id.toNat := by unfold idAt; rw [h]
end Go.Proofs.Ytialceppopjhaaa

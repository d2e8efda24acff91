/- Renewing a lease, as plain data. -/
import Derived.Test.YtohfnpohmieknaaDoorLeaseIdx
set_option linter.unusedSimpArgs false
set_option linter.unusedVariables false
set_option maxRecDepth 20000
namespace Go.Proofs.YtohfnpohmieknaaDoor
open Go.RowKit
theorem book_sorted {ls : List Lease} (hf : bookOk ls = true) : ∀ (n i : Nat) (s t : Lease), ls[i]? = some s → ls[i + n + 1]? = some t → s.Id < t.Id
  | n, i, s, t, hs, ht => by
    have hall : okAll leaseOk leaseLt ls ls.length = true := by
      unfold bookOk at hf
      rw [Bool.and_eq_true] at hf
      exact hf.2
    have hstep : ∀ k (x y : Lease), ls[k]? = some x → ls[k + 1]? = some y → x.Id < y.Id := fun k x y hx hy => by
      have hk := (List.getElem?_eq_some_iff.1 hy).1
      unfold okAll at hall
      rw [List.all_eq_true] at hall
      have h := hall (k + 1) (List.mem_range.2 hk)
      rw [okAt_next (by omega) hy (by simpa using hx), Bool.and_eq_true] at h
      simpa [leaseLt] using h.2
    cases n with
    | zero => exact hstep i s t hs ht
    | succ n =>
      have hk := (List.getElem?_eq_some_iff.1 ht).1
      have hm := List.getElem?_eq_getElem (l := ls) (i := i + n + 1) (by omega)
      have h1 := book_sorted hf n i s _ hs hm
      have h2 := hstep (i + n + 1) _ t hm ht
      omega
theorem book_inj {ls : List Lease} (hf : bookOk ls = true) {i j : Nat} {s t : Lease} (hs : ls[i]? = some s) (ht : ls[j]? = some t) (h : s.Id = t.Id) : i = j := by
  rcases Nat.lt_trichotomy i j with h1 | h1 | h1
  · obtain ⟨n, rfl⟩ : ∃ n, j = i + n + 1 := ⟨j - i - 1, by omega⟩
    have := book_sorted hf n i s t hs ht; omega
  · exact h1
  · obtain ⟨n, rfl⟩ : ∃ n, i = j + n + 1 := ⟨i - j - 1, by omega⟩
    have := book_sorted hf n j t s ht hs; omega
theorem book_lease {ls : List Lease} (hf : bookOk ls = true) {i : Nat} {l : Lease} (hl : ls[i]? = some l) : leaseOk l = true := by
  unfold bookOk at hf
  rw [Bool.and_eq_true] at hf
  exact okAll_get hf.2 (List.getElem?_eq_some_iff.1 hl).1 hl
theorem lease_times {l : Lease} (h : leaseOk l = true) : 0 ≤ l.Made ∧ l.Made ≤ 1000000000 ∧ l.Made + 1 ≤ l.Limit ∧ l.Limit ≤ 1000000000 ∧ l.Made + 1 ≤ l.Ends ∧ l.Ends ≤ l.Limit := by
  unfold leaseOk at h
  simp only [Bool.and_eq_true, withinB_iff] at h
  omega
theorem idxL_id {ls : List Lease} {id : Int} {i : Nat} (h : idxL ls id = i) : ∃ l, ls[i]? = some l ∧ l.Id = id := by
  unfold idxL idxB at h
  cases hf : ls.findIdx? (hasLease id) with
  | none => rw [hf] at h; simp only at h; omega
  | some j =>
    rw [hf] at h
    have hj : j = i := by simp only at h; omega
    subst hj
    obtain ⟨h1, h2, -⟩ := List.findIdx?_eq_some_iff_getElem.1 hf
    exact ⟨ls[j], List.getElem?_eq_getElem h1, by simpa [hasLease] using h2⟩
def lendOk (l : Lease) (now by_ : Int) : Bool := withinB by_ 1 1000000000 && withinB now l.Made (l.Ends - 1)
def lendE (l : Lease) (now by_ : Int) : Int := min (now + by_) l.Limit
def lendL (l : Lease) (e : Int) : Lease := ⟨l.Id, l.Token, l.Path, l.Made, e, l.Limit⟩
def renB (ls : List Lease) (id now by_ : Int) : Bool := findB ls id && lendOk (findR ls id) now by_
def renC (ls : List Lease) (id now by_ : Int) : Int := match renB ls id now by_ with | true => lendE (findR ls id) now by_ | false => 0
def renL (ls : List Lease) (id now by_ : Int) : List Lease := match renB ls id now by_ with | true => ls.set (idxL ls id).toNat (lendL (findR ls id) (lendE (findR ls id) now by_)) | false => ls
theorem ren_no {ls : List Lease} {id now by_ : Int} (h : renB ls id now by_ = false) : renC ls id now by_ = 0 ∧ renL ls id now by_ = ls := by unfold renC renL; rw [h]; exact ⟨rfl, rfl⟩
theorem renB_bad {ls : List Lease} {id now by_ : Int} (h : findB ls id = false) : renB ls id now by_ = false := by unfold renB; rw [h]; rfl
theorem renB_by {ls : List Lease} {id now by_ : Int} (h : withinB by_ 1 1000000000 = false) : renB ls id now by_ = false := by unfold renB lendOk; rw [h, Bool.false_and, Bool.and_false]
section
variable {ls : List Lease} {id now by_ : Int} {i : Nat} {l : Lease}
theorem renB_at (hf : bookOk ls = true) (h : idxL ls id = i) (hl : ls[i]? = some l) : renB ls id now by_ = lendOk l now by_ := by unfold renB; rw [findB_at hf h, findR_at hf h hl]; rfl
theorem ren_yes (hf : bookOk ls = true) (h : idxL ls id = i) (hl : ls[i]? = some l) (ho : lendOk l now by_ = true) : renC ls id now by_ = lendE l now by_ ∧ renL ls id now by_ = ls.set i (lendL l (lendE l now by_)) := by
  have hb := renB_at (now := now) (by_ := by_) hf h hl
  rw [ho] at hb
  unfold renC renL
  rw [hb, findR_at hf h hl, h, Int.toNat_natCast]
  exact ⟨rfl, rfl⟩
end
theorem lend_bd {l : Lease} (hl : leaseOk l = true) {now by_ : Int} (ho : lendOk l now by_ = true) : 0 ≤ now ∧ now ≤ 1000000000 ∧ 1 ≤ by_ ∧ by_ ≤ 1000000000 ∧ now < lendE l now by_ ∧ lendE l now by_ ≤ l.Limit := by
  have h1 := lease_times hl
  unfold lendOk at ho
  rw [Bool.and_eq_true] at ho
  have h2 := withinB_iff.1 ho.1
  have h3 := withinB_iff.1 ho.2
  unfold lendE
  omega
theorem renL_len (ls : List Lease) (id now by_ : Int) : (renL ls id now by_).length = ls.length := by
  unfold renL
  cases renB ls id now by_
  · rfl
  · simp only [List.length_set]
/-- What the law asks of each lease. -/
def renX (c id : Int) (l : Lease) : Lease := match c != 0 && l.Id == id with | true => lendL l c | false => l
theorem ren_get {ls : List Lease} {id now by_ : Int} {j : Nat} {l : Lease} (hl : ls[j]? = some l) : (renL ls id now by_)[j]? = some (renX (renC ls id now by_) id l) ∧ ((renC ls id now by_ != 0 && l.Id == id) = true → now < renC ls id now by_ ∧ renC ls id now by_ ≤ l.Limit) := by
  cases hb : renB ls id now by_
  · rw [(ren_no hb).1, (ren_no hb).2]
    exact ⟨hl, fun h => by simp at h⟩
  · have hb0 := hb
    unfold renB at hb
    rw [Bool.and_eq_true] at hb
    have hfb := hb.1
    unfold findB at hfb
    rw [Bool.and_eq_true, decide_eq_true_eq] at hfb
    obtain ⟨i, hi⟩ := Int.eq_ofNat_of_zero_le hfb.2
    obtain ⟨m, hm, hid⟩ := idxL_id hi
    have ho : lendOk m now by_ = true := by rw [← renB_at hfb.1 hi hm]; exact hb0
    obtain ⟨r1, r2⟩ := ren_yes hfb.1 hi hm ho
    have hbd := lend_bd (book_lease hfb.1 hm) ho
    rw [r1, r2]
    have hne : (lendE m now by_ != 0) = true := by
      have : lendE m now by_ ≠ 0 := by omega
      simpa [bne] using this
    have hjl := (List.getElem?_eq_some_iff.1 hl).1
    by_cases he : l.Id = id
    · have hij : i = j := book_inj hfb.1 hm hl (by rw [hid, he])
      subst hij
      rw [hm] at hl
      obtain rfl : m = l := by simpa using hl
      have hx : (lendE m now by_ != 0 && m.Id == id) = true := by rw [hne, Bool.true_and]; simpa using he
      refine ⟨?_, fun _ => ⟨hbd.2.2.2.2.1, hbd.2.2.2.2.2⟩⟩
      rw [List.getElem?_set_self hjl]
      unfold renX
      rw [hx]
    · have hij : i ≠ j := fun e => by subst e; rw [hm] at hl; have : m = l := by simpa using hl
                                      subst this; exact he hid
      have hx : (lendE m now by_ != 0 && l.Id == id) = false := by rw [hne, Bool.true_and]; simpa using he
      refine ⟨?_, fun h => by rw [hx] at h; cases h⟩
      rw [List.getElem?_set_ne hij]
      unfold renX
      rw [hx]
      exact hl
end Go.Proofs.YtohfnpohmieknaaDoor

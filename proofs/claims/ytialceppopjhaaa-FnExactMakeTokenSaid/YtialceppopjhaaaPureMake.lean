/- Making a token, as plain data. -/
import Derived.Test.YtialceppopjhaaaPureUse
import Derived.Test.YtialceppopjhaaaHasT
set_option linter.unusedSimpArgs false
set_option linter.unusedVariables false
namespace Go.Proofs.Ytialceppopjhaaa
open Go.RowKit
def lastBig (ts : List Token) (t : Token) : Bool := match ts[ts.length - 1]? with
  | some s => decide (t.Id ≤ s.Id)
  | none => false
def fullC (ts : List Token) : Int := match ts.length == 120 with | true => 5 | false => 0
def makeC (ts : List Token) (t : Token) : Int := match tokOk t && !lastBig ts t with
  | false => 1
  | true => match t.Parent == 0 with
    | true => fullC ts
    | false => match decide (idxT ts t.Parent < 0) with
      | true => 2
      | false => match overB (tokN ts t.Parent).Ends t.Made with
        | true => 3
        | false => match missT t.Names (tokN ts t.Parent).Names with
          | true => 4
          | false => fullC ts
def makeT (ts : List Token) (t : Token) : List Token := match makeC ts t == 0 with | true => ts ++ [t] | false => ts
def MakeC (ts : List Token) (t : Token) : Int := match forestOk ts with | true => makeC ts t | false => 1
def MakeT (ts : List Token) (t : Token) : List Token := match forestOk ts with | true => makeT ts t | false => ts
theorem Make_bad {ts : List Token} {t : Token} (h : forestOk ts = false) : MakeC ts t = 1 ∧ MakeT ts t = ts := by unfold MakeC MakeT; rw [h]; exact ⟨rfl, rfl⟩
theorem Make_good {ts : List Token} {t : Token} (h : forestOk ts = true) : MakeC ts t = makeC ts t ∧ MakeT ts t = makeT ts t := by unfold MakeC MakeT; rw [h]; exact ⟨rfl, rfl⟩
theorem makeT_not {ts : List Token} {t : Token} {c : Int} (h : makeC ts t = c) (hc : (c == 0) = false) : makeT ts t = ts := by unfold makeT; rw [h, hc]
theorem makeT_yes {ts : List Token} {t : Token} (h : makeC ts t = 0) : makeT ts t = ts ++ [t] := by unfold makeT; rw [h]; rfl
section
variable {ts : List Token} {t s : Token} {i : Nat}
theorem make_bad1 (h : tokOk t = false) : makeC ts t = 1 ∧ makeT ts t = ts := by
  have h1 : makeC ts t = 1 := by unfold makeC; rw [h]; rfl
  exact ⟨h1, makeT_not h1 rfl⟩
theorem make_bad2 (h : lastBig ts t = true) : makeC ts t = 1 ∧ makeT ts t = ts := by
  have h1 : makeC ts t = 1 := by unfold makeC; rw [h]; cases tokOk t <;> rfl
  exact ⟨h1, makeT_not h1 rfl⟩
theorem make_top (h : tokOk t = true) (hl : lastBig ts t = false) (hp : (t.Parent == 0) = true) : makeC ts t = fullC ts := by unfold makeC; rw [h, hl, hp]; rfl
theorem make_none (h : tokOk t = true) (hl : lastBig ts t = false) (hp : (t.Parent == 0) = false) (hx : idxT ts t.Parent < 0) : makeC ts t = 2 ∧ makeT ts t = ts := by
  have h1 : makeC ts t = 2 := by unfold makeC; rw [h, hl, hp, decide_eq_true hx]; rfl
  exact ⟨h1, makeT_not h1 rfl⟩
theorem make_over (h : tokOk t = true) (hl : lastBig ts t = false) (hp : (t.Parent == 0) = false) (e1 : idxT ts t.Parent = i) (e2 : ts[i]? = some s) (ho : overB s.Ends t.Made = true) : makeC ts t = 3 ∧ makeT ts t = ts := by
  have h1 : makeC ts t = 3 := by unfold makeC; rw [h, hl, hp, decide_eq_false (by omega : ¬ idxT ts t.Parent < 0), tokN_at e1 e2, ho]; rfl
  exact ⟨h1, makeT_not h1 rfl⟩
theorem make_miss (h : tokOk t = true) (hl : lastBig ts t = false) (hp : (t.Parent == 0) = false) (e1 : idxT ts t.Parent = i) (e2 : ts[i]? = some s) (ho : overB s.Ends t.Made = false) (hm : missT t.Names s.Names = true) : makeC ts t = 4 ∧ makeT ts t = ts := by
  have h1 : makeC ts t = 4 := by unfold makeC; rw [h, hl, hp, decide_eq_false (by omega : ¬ idxT ts t.Parent < 0), tokN_at e1 e2, ho, hm]; rfl
  exact ⟨h1, makeT_not h1 rfl⟩
theorem make_fits (h : tokOk t = true) (hl : lastBig ts t = false) (hp : (t.Parent == 0) = false) (e1 : idxT ts t.Parent = i) (e2 : ts[i]? = some s) (ho : overB s.Ends t.Made = false) (hm : missT t.Names s.Names = false) : makeC ts t = fullC ts := by
  unfold makeC; rw [h, hl, hp, decide_eq_false (by omega : ¬ idxT ts t.Parent < 0), tokN_at e1 e2, ho, hm]; rfl
theorem make_full (h : makeC ts t = fullC ts) (hf : (ts.length == 120) = true) : makeC ts t = 5 ∧ makeT ts t = ts := by
  have h1 : makeC ts t = 5 := by rw [h]; unfold fullC; rw [hf]
  exact ⟨h1, makeT_not h1 rfl⟩
theorem make_done (h : makeC ts t = fullC ts) (hf : (ts.length == 120) = false) : makeC ts t = 0 ∧ makeT ts t = ts ++ [t] := by
  have h1 : makeC ts t = 0 := by rw [h]; unfold fullC; rw [hf]
  exact ⟨h1, makeT_yes h1⟩
theorem lastBig_zero (h : ts.length = 0) : lastBig ts t = false := by
  have : ts = [] := List.length_eq_zero_iff.1 h
  subst this; rfl
theorem lastBig_at (h : ts[ts.length - 1]? = some s) : lastBig ts t = decide (t.Id ≤ s.Id) := by unfold lastBig; rw [h]
theorem makeC_tok (h : makeC ts t = 0) : tokOk t = true := by
  cases hk : tokOk t
  · rw [(make_bad1 hk).1] at h; cases h
  · rfl
end
theorem strSum_le {n : Nat} : ∀ xs : List ByteArray, (∀ s ∈ xs, s.size ≤ n) → strSum xs ≤ n * xs.length
  | [], _ => by simp [strSum]
  | x :: xs, h => by
    have h1 := h x (by simp)
    have h2 := strSum_le xs (fun s hs => h s (by simp [hs]))
    have h3 : strSum (x :: xs) = x.size + strSum xs := by simp [strSum]
    rw [h3, List.length_cons, Nat.mul_succ]; omega
theorem tokOk_sz {t : Token} (h : tokOk t = true) : TokenR.sz t ≤ 78 := by
  unfold tokOk at h
  simp only [Bool.and_eq_true] at h
  have hn := h.2.2.1
  unfold namesOk at hn
  simp only [Bool.and_eq_true, decide_eq_true_eq] at hn
  obtain ⟨h1, h2⟩ := hn
  have h3 := strSum_le (n := 12) t.Names (fun s hs => by
    obtain ⟨j, hj, e⟩ := List.mem_iff_getElem.1 hs
    have h4 := okAll_get h2 hj (List.getElem?_eq_getElem hj)
    rw [e] at h4
    unfold nameOk at h4
    simp only [Bool.and_eq_true] at h4
    have h5 := (withinB_iff.1 h4.1).2
    omega)
  rw [sz_Token, sz_StringS]
  omega
theorem MakeT_sz (ts : List Token) (t : Token) : szList TokenR (MakeT ts t) ≤ szList TokenR ts + 79 := by
  cases hf : forestOk ts
  · rw [(Make_bad hf).2]; omega
  · rw [(Make_good hf).2]
    cases hc : makeC ts t == 0
    · rw [show makeT ts t = ts by unfold makeT; rw [hc]]; omega
    · have h0 : makeC ts t = 0 := by simpa using hc
      rw [makeT_yes h0]
      have h1 := tokOk_sz (makeC_tok h0)
      unfold szList
      simp only [List.length_append, List.map_append, List.sum_append, List.length_cons, List.length_nil, List.map_cons, List.map_nil, List.sum_cons, List.sum_nil]
      omega
end Go.Proofs.Ytialceppopjhaaa

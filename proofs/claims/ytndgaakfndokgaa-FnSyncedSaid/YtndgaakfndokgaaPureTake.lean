/- TakeNum as plain data, as impl goes and as the reference goes; both answer alike. -/
import Derived.Test.YtndgaakfndokgaaPureNum
set_option linter.unusedSimpArgs false
set_option linter.unusedVariables false
set_option maxRecDepth 20000
namespace Go.Proofs.Ytndgaakfndokgaa
open Go.RowKit
/-- A number, the index behind it, whether there is one. -/
abbrev Took := Int × Int × Bool
def noTook : Took := (0, 0, false)
def answerI (bs : List UInt8) (l : UInt8) (a : Nat) : Took :=
  if (l.toNat = 0 ∧ bs ≠ []) ∨ withinB (unzig (valB (bs ++ [l]))) (-1099511627776) 1099511627776 = false then noTook else (unzig (valB (bs ++ [l])), ((a + bs.length + 1 : Nat) : Int), true)
def answerS (bs : List UInt8) (l : UInt8) (a : Nat) : Took :=
  if putB (unzig (valB (bs ++ [l]))) = bs ++ [l] then (unzig (valB (bs ++ [l])), ((a + bs.length + 1 : Nat) : Int), true) else noTook
/-- The rounds from number i on: at most f more. -/
def takeG (ans : List UInt8 → UInt8 → Nat → Took) (b : List UInt8) (a : Nat) : Nat → Nat → Took
  | 0, _ => noTook
  | f + 1, i => match b[a + i]? with
    | none => noTook
    | some g => if 128 ≤ g.toNat then takeG ans b a f (i + 1) else ans ((b.drop a).take i) g a
theorem unzig_out {u : Nat} (h : 4398046511104 ≤ u) : withinB (unzig u) (-1099511627776) 1099511627776 = false := by
  rw [withinB_not]; unfold unzig; split <;> omega
theorem answers {bs : List UInt8} {l : UInt8} {a : Nat} (hb : ∀ x ∈ bs, 128 ≤ x.toNat) (hl : l.toNat < 128) : answerI bs l a = answerS bs l a := by
  unfold answerI answerS
  cases hw : withinB (unzig (valB (bs ++ [l]))) (-1099511627776) 1099511627776
  · rw [putB_out hw]
    simp
  · rw [putB_in hw, zig_unzig]
    by_cases h : l.toNat ≠ 0 ∨ bs = []
    · rw [if_pos ((numB_iff hb hl).2 h), if_neg]
      rintro (⟨h1, h2⟩ | h1)
      · rcases h with h | h
        · exact h h1
        · exact h2 h
      · cases h1
    · rw [if_neg (fun h1 => h ((numB_iff hb hl).1 h1)), if_pos]
      refine .inl ⟨?_, fun h1 => h (.inr h1)⟩
      by_cases h0 : l.toNat = 0
      · exact h0
      · exact absurd (.inl h0) h
theorem answer_far {bs : List UInt8} {l : UInt8} {a : Nat} (hn : bs.length = 6) (hl : l.toNat < 128) : answerI bs l a = noTook := by
  unfold answerI
  by_cases h0 : l.toNat = 0
  · exact if_pos (.inl ⟨h0, fun h => by rw [h] at hn; cases hn⟩)
  · have := valB_ge bs (b := l) (by omega)
    rw [hn] at this
    exact if_pos (.inr (unzig_out (by simpa using this)))
theorem take_more {b : List UInt8} {a i : Nat} {g : UInt8} (h : b[a + i]? = some g) : (b.drop a).take (i + 1) = (b.drop a).take i ++ [g] := by
  have h' : (b.drop a)[i]? = some g := by rw [List.getElem?_drop]; exact h
  obtain ⟨h1, h2⟩ := List.getElem?_eq_some_iff.1 h'
  rw [List.take_succ_eq_append_getElem h1, h2]
theorem takeG_end {ans : List UInt8 → UInt8 → Nat → Took} {b : List UInt8} {a i : Nat} (f : Nat) (h : b[a + i]? = none) : takeG ans b a f i = noTook := by
  cases f with
  | zero => rfl
  | succ f => rw [takeG, h]
theorem takeG_go {ans : List UInt8 → UInt8 → Nat → Took} {b : List UInt8} {a i f : Nat} {g : UInt8} (h : b[a + i]? = some g) (hg : 128 ≤ g.toNat) : takeG ans b a (f + 1) i = takeG ans b a f (i + 1) := by
  rw [takeG, h]
  exact if_pos hg
theorem takeG_stop {ans : List UInt8 → UInt8 → Nat → Took} {b : List UInt8} {a i f : Nat} {g : UInt8} (h : b[a + i]? = some g) (hg : g.toNat < 128) : takeG ans b a (f + 1) i = ans ((b.drop a).take i) g a := by
  rw [takeG, h]
  exact if_neg (by omega)
theorem takeG_alike (b : List UInt8) (a : Nat) : ∀ f i, f + i = 6 → ((b.drop a).take i).length = i → (∀ x ∈ (b.drop a).take i, 128 ≤ x.toNat) → takeG answerI b a (f + 1) i = takeG answerS b a f i
  | 0, i, hf, hlen, _ => by
    cases h : b[a + i]? with
    | none => rw [takeG_end _ h, takeG_end _ h]
    | some g =>
      rcases Nat.lt_or_ge g.toNat 128 with hg | hg
      · rw [takeG_stop h hg, answer_far (by omega) hg]
        rfl
      · rw [takeG_go h hg]
        rfl
  | f + 1, i, hf, hlen, hall => by
    cases h : b[a + i]? with
    | none => rw [takeG_end _ h, takeG_end _ h]
    | some g =>
      rcases Nat.lt_or_ge g.toNat 128 with hg | hg
      · rw [takeG_stop h hg, takeG_stop h hg]
        exact answers hall hg
      · rw [takeG_go h hg, takeG_go h hg]
        refine takeG_alike b a f (i + 1) (by omega) ?_ ?_
        · rw [take_more h, List.length_append, hlen]; rfl
        · rw [take_more h]
          intro x hx
          rcases List.mem_append.1 hx with h1 | h1
          · exact hall x h1
          · rw [List.mem_singleton.1 h1]
            exact hg
theorem takeG_same (b : List UInt8) (a : Nat) : takeG answerI b a 7 0 = takeG answerS b a 6 0 := takeG_alike b a 6 0 rfl (by simp) (by simp)
end Go.Proofs.Ytndgaakfndokgaa

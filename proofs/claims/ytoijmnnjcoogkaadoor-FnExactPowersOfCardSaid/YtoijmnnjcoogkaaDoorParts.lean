/- isPath of the program; l01Parts, l01Segment, GlobOk, PathOk of the reference. -/
import Derived.Test.YtoijmnnjcoogkaaDoorPath
import Derived.Test.YtoijmnnjcoogkaaDoorAppend
set_option linter.unusedSimpArgs false
set_option linter.unusedVariables false
set_option maxRecDepth 20000
namespace Go.Proofs.YtoijmnnjcoogkaaDoor
open Go.RowKit
theorem parts_mem {c b : UInt8} : ∀ {l : List UInt8}, b ∈ l → b = c ∨ ∃ p ∈ partsL c l, b ∈ p
  | x :: l, h => by
    cases hx : x == c
    · rw [partsL, hx]
      cases hp : partsL c l with
      | nil => exact absurd hp (parts_ne c l)
      | cons q qs =>
        rcases List.mem_cons.1 h with rfl | h
        · exact Or.inr ⟨b :: q, by simp, by simp⟩
        · rcases parts_mem (c := c) h with h | ⟨p, h1, h2⟩
          · exact Or.inl h
          · rw [hp] at h1
            rcases List.mem_cons.1 h1 with rfl | h1
            · exact Or.inr ⟨x :: p, by simp, by simp [h2]⟩
            · exact Or.inr ⟨p, by simp [h1], h2⟩
    · rw [partsL, hx]
      rcases List.mem_cons.1 h with rfl | h
      · exact Or.inl (by simpa using hx)
      · rcases parts_mem (c := c) h with h | ⟨p, h1, h2⟩
        · exact Or.inl h
        · exact Or.inr ⟨p, by simp [h1], h2⟩
theorem segsOk_all {xs : List ByteArray} : ∀ {m : Nat}, segsOk xs m = true → ∀ k, k < m → ∀ s, xs[k]? = some s → segAt xs.length k s = true
  | m + 1, h, k, hk, s, hs => by
    rw [segsOk, Bool.and_eq_true] at h
    rcases Nat.lt_or_ge k m with h1 | h1
    · exact segsOk_all h.1 k h1 s hs
    · obtain rfl : k = m := by omega
      have h2 := h.2
      rw [hs] at h2
      exact h2
theorem segByte_ascii {b : UInt8} (h : segByte b = true) : b.toNat < 128 := by
  rw [segByte, Bool.or_eq_true, nameByte_iff, beq_iff_eq] at h
  rcases h with h | rfl
  · omega
  · decide
theorem segAt_ascii {n k : Nat} {x : ByteArray} (h : segAt n k x = true) : ∀ b ∈ x.data.toList, b.toNat < 128 := by
  intro b hb
  unfold segAt at h
  simp only [Bool.or_eq_true, Bool.and_eq_true] at h
  rcases h with (h | h) | h
  · unfold segOk strAll at h
    rw [Bool.and_eq_true, List.all_eq_true] at h
    exact segByte_ascii (h.2 b hb)
  · unfold isPlus at h
    rw [beq_iff_eq] at h
    rw [h] at hb
    simp at hb
    rw [hb]; decide
  · have h := h.1
    unfold isStar at h
    rw [beq_iff_eq] at h
    rw [h] at hb
    simp at hb
    rw [hb]; decide
theorem glob_ascii {s : ByteArray} (h : globOk s = true) : ∀ (j : Nat) b, s.data.toList[j]? = some b → b.toNat < 128 := by
  intro j b hj
  unfold globOk at h
  simp only [Bool.and_eq_true] at h
  rcases parts_mem (c := 47) (List.mem_of_getElem? hj) with rfl | ⟨p, h1, h2⟩
  · decide
  · have hm : baOf p ∈ segsOf s := List.mem_map.2 ⟨p, h1, rfl⟩
    obtain ⟨k, hk, hg⟩ := List.mem_iff_getElem.1 hm
    have := segsOk_all h.2.1 k hk (baOf p) (by rw [List.getElem?_eq_getElem hk, hg])
    exact segAt_ascii this b h2
theorem glob_len {s : ByteArray} (h : globOk s = true) : s.size ≤ 120 := by
  unfold globOk at h
  simp only [Bool.and_eq_true, decide_eq_true_eq] at h
  exact h.1
theorem path_len {s : ByteArray} (h : pathOk s = true) : s.size ≤ 120 := by
  unfold pathOk at h
  rw [Bool.and_eq_true] at h
  exact glob_len h.1
theorem parts_snoc_hit (c : UInt8) : ∀ l : List UInt8, partsL c (l ++ [c]) = partsL c l ++ [[]]
  | [] => by simp [partsL]
  | b :: l => by
    have ih := parts_snoc_hit c l
    rw [List.cons_append, partsL, partsL, ih]
    cases b == c
    · cases hp : partsL c l with
      | nil => exact absurd hp (parts_ne c l)
      | cons q qs => rfl
    · rfl
theorem parts_snoc_miss {c x : UInt8} (hx : (x == c) = false) : ∀ (l : List UInt8) (ps : List (List UInt8)) (p : List UInt8), partsL c l = ps ++ [p] → partsL c (l ++ [x]) = ps ++ [p ++ [x]]
  | [], ps, p, h => by
    rw [partsL] at h
    cases ps with
    | nil => rw [List.nil_append] at h; injection h with h1 h2; subst h1; rw [List.nil_append, partsL, hx]; rfl
    | cons q qs => injection h with h1 h2; exact absurd h2 (by cases qs <;> simp)
  | b :: l, ps, p, h => by
    rw [List.cons_append, partsL]
    rw [partsL] at h
    cases hb : b == c <;> rw [hb] at h
    · cases hp : partsL c l with
      | nil => exact absurd hp (parts_ne c l)
      | cons q qs =>
        rw [hp] at h
        simp only at h
        cases ps with
        | nil =>
          rw [List.nil_append] at h
          injection h with h1 h2
          subst h2
          rw [parts_snoc_miss hx l [] q (by rw [hp]; rfl)]
          simp only [List.nil_append]
          rw [← h1]; rfl
        | cons r rs =>
          rw [List.cons_append] at h
          injection h with h1 h2
          rw [parts_snoc_miss hx l (q :: rs) p (by rw [hp, h2]; rfl)]
          simp only [List.cons_append]
          rw [← h1]
    · simp only at h
      cases ps with
      | nil =>
        rw [List.nil_append] at h
        injection h with h1 h2
        exact absurd h2 (parts_ne c l)
      | cons r rs =>
        rw [List.cons_append] at h
        injection h with h1 h2
        rw [parts_snoc_miss hx l rs p h2, ← h1]; rfl
/-- Behind i bytes: the parts that are whole, and the place where the last one begins. -/
def PartsAt (c : UInt8) (l : List UInt8) (i : Nat) (ps : List (List UInt8)) (at_ : Nat) : Prop := at_ ≤ i ∧ partsL c (l.take i) = ps ++ [(l.take i).drop at_]
theorem partsAt_zero (c : UInt8) (l : List UInt8) : PartsAt c l 0 [] 0 := ⟨Nat.le_refl _, by simp [partsL]⟩
theorem partsAt_hit {c x : UInt8} {l : List UInt8} {i at_ : Nat} {ps : List (List UInt8)} (h : PartsAt c l i ps at_) (hx : l[i]? = some x) (he : (x == c) = true) : PartsAt c l (i + 1) (ps ++ [(l.take i).drop at_]) (i + 1) := by
  have hxc : x = c := by simpa using he
  subst hxc
  refine ⟨Nat.le_refl _, ?_⟩
  have hd : List.drop (i + 1) (List.take i l ++ [x]) = [] := List.drop_of_length_le (by rw [List.length_append, List.length_take, List.length_singleton]; omega)
  rw [take_snoc hx, parts_snoc_hit, h.2, hd]
theorem partsAt_miss {c x : UInt8} {l : List UInt8} {i at_ : Nat} {ps : List (List UInt8)} (h : PartsAt c l i ps at_) (hx : l[i]? = some x) (he : (x == c) = false) : PartsAt c l (i + 1) ps at_ := by
  have hi := (List.getElem?_eq_some_iff.1 hx).1
  refine ⟨by have := h.1; omega, ?_⟩
  rw [take_snoc hx, parts_snoc_miss he _ _ _ h.2, List.drop_append_of_le_length (by rw [List.length_take]; have := h.1; omega)]
theorem partsAt_end {c : UInt8} {l : List UInt8} {n at_ : Nat} {ps : List (List UInt8)} (h : PartsAt c l n ps at_) (hn : l.length ≤ n) : partsL c l = ps ++ [(l.take n).drop at_] := by
  have := h.2
  rw [List.take_of_length_le hn] at this ⊢
  exact this
end Go.Proofs.YtoijmnnjcoogkaaDoor

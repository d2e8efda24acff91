/- Slices whose elements own memory: building them up, element by element; marking them. -/
import Derived.Test.YtoijmnnjcoogkaaDoorRep
set_option linter.unusedSimpArgs false
set_option linter.unusedVariables false
set_option maxRecDepth 20000
namespace Go.Proofs.YtoijmnnjcoogkaaDoor
open Go.RowKit
/-- Elements that have been built so far: each owns its own blocks, from lo on. -/
structure Built {α : Type} (R : Rep α) (w : World) (lo : Nat) (Ss : List (Nat → Prop)) (css : List (List Value)) (xs : List α) : Prop where
  all : OwnAll R w Ss css xs
  inn : ∀ s ∈ Ss, ∀ g, s g → lo ≤ g ∧ g < w.heap.size
  apart : Ss.Pairwise fun s t => ∀ g, s g → ¬ t g
section
variable {α : Type} {R : Rep α} {w w' : World} {lo : Nat} {Ss : List (Nat → Prop)} {css : List (List Value)} {xs : List α} {T : Nat → Prop}
theorem Built.nil (R : Rep α) (w : World) (lo : Nat) : Built R w lo [] [] [] := ⟨⟨rfl, rfl, fun i S cs x h => by simp at h⟩, by simp, List.Pairwise.nil⟩
theorem Built.out (h : Built R w lo Ss css xs) (ho : Out T w w') (hT : ∀ s ∈ Ss, ∀ g, s g → ¬ T g) : Built R w' lo Ss css xs :=
  ⟨⟨h.all.1, h.all.2.1, fun i S cs x a b c => R.own_out (h.all.2.2 i S cs x a b c) ho (hT S (List.mem_of_getElem? a))⟩, fun s hs g hg => ⟨(h.inn s hs g hg).1, Nat.lt_of_lt_of_le (h.inn s hs g hg).2 ho.size⟩, h.apart⟩
theorem Built.keep (h : Built R w lo Ss css xs) (hb : Below w.heap.size w w') : Built R w' lo Ss css xs :=
  ⟨⟨h.all.1, h.all.2.1, fun i S cs x a b c => R.own_keep (h.all.2.2 i S cs x a b c) hb⟩, fun s hs g hg => ⟨(h.inn s hs g hg).1, Nat.lt_of_lt_of_le (h.inn s hs g hg).2 hb.size⟩, h.apart⟩
/-- A store into a block that no element owns. -/
theorem Built.setC (h : Built R w lo Ss css xs) {a : Addr} (ha : ∀ s ∈ Ss, ¬ s a.block) (u : Value) : Built R (w.setCell a u) lo Ss css xs :=
  h.out (T := fun g => g = a.block) ((Out.refl (fun g => g = a.block) w).setCell (p := a) rfl u) (fun s hs g hg e => ha s hs (e ▸ hg))
theorem getElem?_snoc {β : Type} {l : List β} {a b : β} {i : Nat} (h : (l ++ [a])[i]? = some b) : (i < l.length ∧ l[i]? = some b) ∨ (i = l.length ∧ a = b) := by
  rcases Nat.lt_or_ge i l.length with h1 | h1
  · rw [List.getElem?_append_left h1] at h; exact .inl ⟨h1, h⟩
  · rw [List.getElem?_append_right h1] at h
    have h2 : i - l.length = 0 := by
      rcases Nat.eq_zero_or_pos (i - l.length) with h3 | h3
      · exact h3
      · rw [List.getElem?_eq_none (by simp; omega)] at h; cases h
    rw [h2] at h
    exact .inr ⟨by omega, by simpa using h⟩
/-- One element more, in blocks that are new. -/
theorem Built.snoc (h : Built R w lo Ss css xs) {lo1 hi1 : Nat} {cs : List Value} {x : α} (ho : R.Own w (InR lo1 hi1) cs x) (h1 : lo ≤ lo1) (h2 : hi1 ≤ w.heap.size) (h3 : ∀ s ∈ Ss, ∀ g, s g → g < lo1) : Built R w lo (Ss ++ [InR lo1 hi1]) (css ++ [cs]) (xs ++ [x]) := by
  obtain ⟨⟨a1, a2, a3⟩, b, c⟩ := h
  refine ⟨⟨by simp [a1], by simp [a2], fun i S cs' x' q1 q2 q3 => ?_⟩, fun s hs g hg => ?_, ?_⟩
  · rcases getElem?_snoc q1 with ⟨p1, q1⟩ | ⟨p1, q1⟩ <;> rcases getElem?_snoc q2 with ⟨p2, q2⟩ | ⟨p2, q2⟩ <;> rcases getElem?_snoc q3 with ⟨p3, q3⟩ | ⟨p3, q3⟩ <;> first | (exfalso; omega) | skip
    · exact a3 i S cs' x' q1 q2 q3
    · rw [← q1, ← q2, ← q3]; exact ho
  · rcases List.mem_append.1 hs with hs | hs
    · exact b s hs g hg
    · rw [List.mem_singleton.1 hs] at hg; exact ⟨Nat.le_trans h1 hg.1, Nat.lt_of_lt_of_le hg.2 h2⟩
  · rw [List.pairwise_append]
    refine ⟨c, List.pairwise_singleton _ _, fun s hs t ht g hg hg' => ?_⟩
    rw [List.mem_singleton.1 ht] at hg'
    have q1 := h3 s hs g hg
    have q2 := hg'.1
    omega
/-- Elements that own nothing: any block may come in between. -/
theorem Built.own {e : TypeId} {S : Nat → Prop} {S0 : Nat → Prop} {A : Option Addr} {c : Nat} (h : Built R w lo Ss css xs) (hr : Rows w S0 e R.m A css) (hc : xs.length ≤ c) (hc' : c ≤ 9223372036854775807) (h0 : ∀ g, S0 g → S g) (h1 : ∀ s ∈ Ss, ∀ g, s g → S g ∧ ¬ S0 g) : SlOwn R e w S (.slice A xs.length c) xs :=
  ⟨A, c, css, S0, Ss, rfl, hc, hc', hr, h.all, h0, h1, h.apart⟩
end
/-- The rows of a block that is owned, whatever it holds. -/
theorem Rows.of_any {w : World} {base : Nat} {e : TypeId} {m n c : Nat} {A : Option Addr} {xs : List Value} (h : w.ownsRow base e m (.slice A n c) n xs) (hm : 0 < m) : ∃ css : List (List Value), css.length = n ∧ (∀ cs ∈ css, cs.length = m) ∧ Rows w (fun g => (Value.slice A n c).ownBlock = some g) e m A css := by
  have hl := h.1
  refine ⟨(List.range n).map fun j => (xs.drop (j * m)).take m, by simp, fun cs hcs => ?_, ?_⟩
  · obtain ⟨j, hj, rfl⟩ := List.mem_map.1 hcs
    rw [List.mem_range] at hj
    have : (j + 1) * m ≤ n * m := Nat.mul_le_mul_right m hj
    rw [Nat.add_mul] at this
    simp only [List.length_take, List.length_drop]
    omega
  · intro h0
    rcases h.2 with ⟨hv, hn'⟩ | ⟨g, cap, cur, hv, hb, hg, hnc, hcm, hcs, htake⟩
    · simp [hn'] at h0
    · simp only [Value.slice.injEq] at hv
      obtain ⟨rfl, _, rfl⟩ := hv
      refine ⟨g, 0, cur, rfl, rfl, hg, fun j cs i u hj hu => ?_⟩
      rw [List.getElem?_map] at hj
      have hjn : j < n := by
        rcases Nat.lt_or_ge j n with h | h
        · exact h
        · rw [List.getElem?_eq_none (by simpa using h)] at hj; cases hj
      rw [List.getElem?_range hjn] at hj
      simp only [Option.map_some, Option.some.injEq] at hj
      subst hj
      rw [List.getElem?_take] at hu
      split at hu
      · rw [List.getElem?_drop, ← htake, List.getElem?_take] at hu
        split at hu
        · rw [Nat.zero_add]; simpa using hu
        · cases hu
      · cases hu
theorem mkList_len {α : Type} (R : Rep α) : ∀ (k : Nat) (xs : List α), (mkList R k xs).length = xs.length
  | _, [] => rfl
  | k, x :: xs => by rw [mkList, List.length_cons, List.length_cons, mkList_len R _ xs]
theorem cntList_snoc {α : Type} (R : Rep α) {xs : List α} {k : Nat} {x : α} (h : xs[k]? = some x) : cntList R (xs.take (k + 1)) = cntList R (xs.take k) + R.cnt x := by
  rw [take_snoc h]; simp [cntList]
theorem szList_elem {α : Type} (R : Rep α) {xs : List α} {k : Nat} {x : α} (h : xs[k]? = some x) : ((xs.take (k + 1)).map R.sz).sum = ((xs.take k).map R.sz).sum + R.sz x := by
  rw [take_snoc h]; simp
theorem sum_take_le {α : Type} (f : α → Nat) (xs : List α) (k : Nat) : ((xs.take k).map f).sum ≤ (xs.map f).sum := by
  have h : xs.map f = (xs.take k).map f ++ (xs.drop k).map f := by rw [← List.map_append, List.take_append_drop]
  rw [h, List.sum_append]
  omega
theorem mkList_get {α : Type} (R : Rep α) : ∀ (k : Nat) (xs : List α) (j : Nat) (x : α), xs[j]? = some x → (mkList R k xs)[j]? = some (R.mark (k + cntList R (xs.take j)) x)
  | k, [], j, x, h => by simp at h
  | k, y :: ys, 0, x, h => by
    simp only [List.getElem?_cons_zero, Option.some.injEq] at h
    subst h
    simp [mkList, cntList]
  | k, y :: ys, j + 1, x, h => by
    rw [mkList, List.getElem?_cons_succ]
    rw [mkList_get R (k + R.cnt y) ys j x (by simpa using h)]
    simp [cntList, Nat.add_assoc]
/-- The row j of rows, while it is being written: it holds cs. -/
structure RowsJ (w : World) (S : Nat → Prop) (e : TypeId) (m : Nat) (A : Option Addr) (css : List (List Value)) (j : Nat) (cs : List Value) : Prop where
  rows : Rows w S e m A (css.set j cs)
  len : ∀ cs ∈ css, cs.length = m
  jl : j < css.length
  cl : cs.length = m
section
variable {w w' : World} {S T : Nat → Prop} {e : TypeId} {m : Nat} {A : Option Addr} {css : List (List Value)} {j : Nat} {cs : List Value} {g off : Nat}
theorem RowsJ.start (h : Rows w S e m A css) (hlen : ∀ cs ∈ css, cs.length = m) (hj : css[j]? = some cs) : RowsJ w S e m A css j cs := by
  obtain ⟨hl, he⟩ := List.getElem?_eq_some_iff.1 hj
  refine ⟨?_, hlen, hl, hlen cs (List.mem_of_getElem? hj)⟩
  rw [← he, List.set_getElem_self]
  exact h
theorem RowsJ.set (h : RowsJ w S e m (some ⟨g, off, none⟩) css j cs) {i : Nat} (hi : i < m) (u : Value) : RowsJ (w.setCell ⟨g, off + (j * m + i), none⟩ u) S e m (some ⟨g, off, none⟩) css j (cs.set i u) := by
  refine ⟨?_, h.len, h.jl, by rw [List.length_set]; exact h.cl⟩
  have h1 := h.rows.setC (fun cs' hcs => by
    rcases List.mem_or_eq_of_mem_set hcs with h2 | h2
    · exact h.len cs' h2
    · rw [h2]; exact h.cl) (j := j) (List.getElem?_set_self h.jl) hi u
  rw [List.set_set] at h1
  exact h1
theorem RowsJ.out (h : RowsJ w S e m A css j cs) (ho : Out T w w') (hS : ∀ g, S g → ¬ T g) : RowsJ w' S e m A css j cs := ⟨h.rows.out ho hS, h.len, h.jl, h.cl⟩
theorem RowsJ.keep (h : RowsJ w S e m A css j cs) (hb : Below w.heap.size w w') : RowsJ w' S e m A css j cs := ⟨h.rows.keep hb, h.len, h.jl, h.cl⟩
/-- Where the cells of the row lie. -/
theorem RowsJ.at_ (h : RowsJ w S e m (some ⟨g, off, none⟩) css j cs) : S g ∧ g < w.heap.size ∧ ∀ (i : Nat) (u : Value), cs[i]? = some u → w.cell? ⟨g, off + (j * m + i), none⟩ = some u ∧ w.frozen? ⟨g, off + (j * m + i), none⟩ = false := by
  obtain ⟨g', off', a, b, c, d⟩ := h.rows.at_ (j := j) (List.getElem?_set_self h.jl)
  simp only [Option.some.injEq, Addr.mk.injEq, and_true] at a
  obtain ⟨rfl, rfl⟩ := a
  exact ⟨b, c, d⟩
theorem RowsJ.len' (h : RowsJ w S e m A css j cs) : (css.set j cs).length = css.length ∧ ∀ cs' ∈ css.set j cs, cs'.length = m :=
  ⟨List.length_set .., fun cs' hcs => by
    rcases List.mem_or_eq_of_mem_set hcs with h2 | h2
    · exact h.len cs' h2
    · rw [h2]; exact h.cl⟩
end
theorem Rows.addr {w : World} {S : Nat → Prop} {e : TypeId} {m : Nat} {A : Option Addr} {css : List (List Value)} (h : Rows w S e m A css) (h0 : 0 < css.length) : ∃ g off, A = some ⟨g, off, none⟩ := by
  obtain ⟨g, off, _, a, _⟩ := h h0
  exact ⟨g, off, a⟩
/-- One element turns; the others stay. -/
theorem OwnAll.set {α : Type} {R : Rep α} {w w' : World} {Ss : List (Nat → Prop)} {css : List (List Value)} {ys : List α} {T : Nat → Prop} (h : OwnAll R w Ss css ys) {j : Nat} {Sj : Nat → Prop} {cs : List Value} {y : α} (hS : Ss[j]? = some Sj)
    (ho : Out T w w') (hT : ∀ (i : Nat) (s : Nat → Prop), i ≠ j → Ss[i]? = some s → ∀ g, s g → ¬ T g) (hn : R.Own w' Sj cs y) : OwnAll R w' Ss (css.set j cs) (ys.set j y) := by
  obtain ⟨a1, a2, a3⟩ := h
  refine ⟨by simpa using a1, by simpa using a2, fun i s cs' y' q1 q2 q3 => ?_⟩
  have hjl : j < Ss.length := (List.getElem?_eq_some_iff.1 hS).1
  by_cases hij : j = i
  · subst hij
    rw [List.getElem?_set_self (by omega)] at q2 q3
    simp only [Option.some.injEq] at q2 q3
    subst q2 q3
    rw [hS] at q1
    simp only [Option.some.injEq] at q1
    subst q1
    exact hn
  · rw [List.getElem?_set_ne hij] at q2 q3
    exact R.own_out (a3 i s cs' y' q1 q2 q3) ho (hT i s (fun e => hij e.symm) q1)
theorem pairwise_get {β : Type} {r : β → β → Prop} {l : List β} (h : l.Pairwise r) (hs : ∀ a b, r a b → r b a) {i j : Nat} {a b : β} (hij : i ≠ j) (ha : l[i]? = some a) (hb : l[j]? = some b) : r a b := by
  obtain ⟨hi, rfl⟩ := List.getElem?_eq_some_iff.1 ha
  obtain ⟨hj, rfl⟩ := List.getElem?_eq_some_iff.1 hb
  rw [List.pairwise_iff_getElem] at h
  rcases Nat.lt_or_ge i j with h1 | h1
  · exact h i j hi hj h1
  · exact hs _ _ (h j i hj hi (by omega))
theorem SlRd.caps {α : Type} {R : Rep α} {w : World} {B n c : Nat} {A : Option Addr} {xs : List α} (h : SlRd R w B (.slice A n c) xs) : xs.length ≤ c ∧ c ≤ 9223372036854775807 := by
  obtain ⟨A', c', css, h1, h2, h3, _⟩ := h
  simp only [Value.slice.injEq] at h1
  obtain ⟨_, _, rfl⟩ := h1
  exact ⟨h2, h3⟩
theorem szList_one {α : Type} {R : Rep α} {xs : List α} {k : Nat} {x : α} (h : xs[k]? = some x) : R.sz x ≤ szList R xs := by
  have h1 := szList_elem R h
  have h2 := sum_take_le R.sz xs (k + 1)
  unfold szList
  omega
/-- The list, its first j elements marked. -/
def mkTo {α : Type} (R : Rep α) (k : Nat) (xs : List α) (j : Nat) : List α := (mkList R k xs).take j ++ xs.drop j
theorem mkTo_zero {α : Type} (R : Rep α) (k : Nat) (xs : List α) : mkTo R k xs 0 = xs := by simp [mkTo]
theorem mkTo_all {α : Type} (R : Rep α) (k : Nat) (xs : List α) : mkTo R k xs xs.length = mkList R k xs := by
  unfold mkTo
  rw [List.take_of_length_le (by rw [mkList_len]; exact Nat.le_refl _), List.drop_length, List.append_nil]
theorem mkTo_len {α : Type} (R : Rep α) (k : Nat) (xs : List α) (j : Nat) (h : j ≤ xs.length) : (mkTo R k xs j).length = xs.length := by
  unfold mkTo
  rw [List.length_append, List.length_take, List.length_drop, mkList_len]
  omega
theorem mkTo_get {α : Type} (R : Rep α) (k : Nat) {xs : List α} {j : Nat} {x : α} (h : xs[j]? = some x) : (mkTo R k xs j)[j]? = some x := by
  obtain ⟨hl, _⟩ := List.getElem?_eq_some_iff.1 h
  unfold mkTo
  rw [List.getElem?_append_right (by rw [List.length_take]; omega), List.length_take, mkList_len, Nat.min_eq_left (by omega), Nat.sub_self, List.getElem?_drop]
  exact h
theorem mkTo_succ {α : Type} (R : Rep α) (k : Nat) {xs : List α} {j : Nat} {x : α} (h : xs[j]? = some x) : mkTo R k xs (j + 1) = (mkTo R k xs j).set j (R.mark (k + cntList R (xs.take j)) x) := by
  obtain ⟨hl, he⟩ := List.getElem?_eq_some_iff.1 h
  unfold mkTo
  have hL : ((mkList R k xs).take j).length = j := by rw [List.length_take, mkList_len]; omega
  rw [List.set_append_right _ _ (by omega), hL, Nat.sub_self, List.drop_eq_getElem_cons hl, List.set_cons_zero, take_snoc (mkList_get R k xs j x h)]
  simp
end Go.Proofs.YtoijmnnjcoogkaaDoor

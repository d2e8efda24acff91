/- How data lies in memory: rows of cells in blocks of a set; slices whose elements own memory of their own. -/
import Derived.Test.YtoijmnnjcoogkaaDoorAppend
set_option linter.unusedSimpArgs false
set_option linter.unusedVariables false
set_option maxRecDepth 20000
namespace Go.Proofs.YtoijmnnjcoogkaaDoor
open Go.RowKit

theorem lt_of_heap {w : World} {g : Nat} {o : Obj} (h : w.heap[g]? = some o) : g < w.heap.size := (Array.getElem?_eq_some_iff.1 h).1
theorem out_of_below {B : Nat} {w w' : World} (h : Below B w w') : Out (fun g => B ≤ g) w w' := ⟨h.os, h.tape, h.output, h.size, fun k _ hs => h.block k (by omega)⟩
theorem div_mod_uniq {m i j i' j' : Nat} (hi : i < m) (hi' : i' < m) (h : j * m + i = j' * m + i') : j = j' ∧ i = i' := by
  have h1 : (i + m * j) / m = j := by rw [Nat.add_mul_div_left _ _ (by omega), Nat.div_eq_of_lt hi]; omega
  have h2 : (i' + m * j') / m = j' := by rw [Nat.add_mul_div_left _ _ (by omega), Nat.div_eq_of_lt hi']; omega
  have e : i + m * j = i' + m * j' := by rw [Nat.mul_comm m j, Nat.mul_comm m j']; omega
  have hj : j = j' := by rw [← h1, ← h2, e]
  subst hj
  exact ⟨rfl, by omega⟩
/-- Rows of m cells, one behind the other from the address A on: in a block of S, of element type e, none of it frozen. -/
def Rows (w : World) (S : Nat → Prop) (e : TypeId) (m : Nat) (A : Option Addr) (css : List (List Value)) : Prop :=
  0 < css.length → ∃ g off cur, A = some ⟨g, off, none⟩ ∧ S g ∧ w.heap[g]? = some (.cells cur e (0, 0)) ∧ ∀ (j : Nat) (cs : List Value) (i : Nat) (u : Value), css[j]? = some cs → cs[i]? = some u → cur[off + (j * m + i)]? = some u
def RowsRd (w : World) (B : Nat) (m : Nat) (A : Option Addr) (css : List (List Value)) : Prop :=
  0 < css.length → ∃ b off, A = some ⟨b, off, none⟩ ∧ b < B ∧ ∀ (j : Nat) (cs : List Value) (i : Nat) (u : Value), css[j]? = some cs → cs[i]? = some u → w.cell? ⟨b, off + (j * m + i), none⟩ = some u
section
variable {w w' : World} {S T : Nat → Prop} {e : TypeId} {m : Nat} {A : Option Addr} {css : List (List Value)} {B B' : Nat}
theorem Rows.nil : Rows w S e m A [] := fun h => absurd h (by simp)
theorem Rows.wide (h : Rows w S e m A css) (h1 : ∀ g, S g → T g) : Rows w T e m A css := fun h0 => by
  obtain ⟨g, off, cur, a, b, d, f⟩ := h h0
  exact ⟨g, off, cur, a, h1 g b, d, f⟩
theorem Rows.out (h : Rows w S e m A css) (ho : Out T w w') (hS : ∀ g, S g → ¬ T g) : Rows w' S e m A css := fun h0 => by
  obtain ⟨g, off, cur, a, b, d, f⟩ := h h0
  exact ⟨g, off, cur, a, b, by rw [ho.block g (lt_of_heap d) (hS g b)]; exact d, f⟩
theorem Rows.below (h : Rows w S e m A css) (hb : Below B w w') (hB : ∀ g, S g → g < B) : Rows w' S e m A css := h.out (out_of_below hb) (fun g hg h2 => by have := hB g hg; omega)
theorem Rows.keep (h : Rows w S e m A css) (hb : Below w.heap.size w w') : Rows w' S e m A css := fun h0 => by
  obtain ⟨g, off, cur, a, b, d, f⟩ := h h0
  exact ⟨g, off, cur, a, b, by rw [hb.block g (lt_of_heap d)]; exact d, f⟩
theorem Rows.at_ (h : Rows w S e m A css) {j : Nat} {cs : List Value} (hj : css[j]? = some cs) : ∃ g off, A = some ⟨g, off, none⟩ ∧ S g ∧ g < w.heap.size ∧ ∀ (i : Nat) (u : Value), cs[i]? = some u → w.cell? ⟨g, off + (j * m + i), none⟩ = some u ∧ w.frozen? ⟨g, off + (j * m + i), none⟩ = false := by
  obtain ⟨g, off, cur, a, b, d, f⟩ := h (by have := (List.getElem?_eq_some_iff.1 hj).1; omega)
  refine ⟨g, off, a, b, lt_of_heap d, fun i u hu => ⟨?_, frozen_of_row w g _ cur e d⟩⟩
  rw [cell_of_row w g _ cur e (0, 0) d]
  exact f j cs i u hj hu
theorem Rows.rd (h : Rows w S e m A css) (hB : ∀ g, S g → g < B) : RowsRd w B m A css := fun h0 => by
  obtain ⟨g, off, cur, a, b, d, f⟩ := h h0
  refine ⟨g, off, a, hB g b, fun j cs i u hj hu => ?_⟩
  rw [cell_of_row w g _ cur e (0, 0) d]
  exact f j cs i u hj hu
theorem Rows.setC {g off : Nat} (h : Rows w S e m (some ⟨g, off, none⟩) css) (hlen : ∀ cs ∈ css, cs.length = m) {j : Nat} {cs : List Value} (hj : css[j]? = some cs) {i : Nat} (hi : i < m) (u : Value) :
    Rows (w.setCell ⟨g, off + (j * m + i), none⟩ u) S e m (some ⟨g, off, none⟩) (css.set j (cs.set i u)) := by
  intro h0
  obtain ⟨g', off', cur, a, b, d, f⟩ := h (by simpa using h0)
  simp only [Option.some.injEq, Addr.mk.injEq, and_true] at a
  obtain ⟨rfl, rfl⟩ := a
  obtain ⟨hjl, hje⟩ := List.getElem?_eq_some_iff.1 hj
  have hcl : cs.length = m := hlen cs (List.mem_of_getElem? hj)
  refine ⟨g, off, cur.setIfInBounds (off + (j * m + i)) u, rfl, b, heap_setCell_same w g _ cur e u d, fun j' cs' i' u' hj' hu' => ?_⟩
  have hsz : off + (j * m + i) < cur.size := by
    have := f j cs i _ hj (List.getElem?_eq_getElem (by omega))
    exact (Array.getElem?_eq_some_iff.1 this).1
  rw [Array.getElem?_setIfInBounds]
  by_cases hjj : j = j'
  · subst hjj
    rw [List.getElem?_set_self hjl] at hj'
    simp only [Option.some.injEq] at hj'
    subst hj'
    by_cases hii : i = i'
    · subst hii
      rw [List.getElem?_set_self (by omega)] at hu'
      rw [if_pos rfl, if_pos hsz]
      exact hu'
    · rw [List.getElem?_set_ne hii] at hu'
      rw [if_neg (by omega)]
      exact f j cs i' u' hj hu'
  · rw [List.getElem?_set_ne hjj] at hj'
    have hi' : i' < m := by rw [← hlen cs' (List.mem_of_getElem? hj')]; exact (List.getElem?_eq_some_iff.1 hu').1
    rw [if_neg (fun e2 => hjj (div_mod_uniq hi hi' (by omega)).1)]
    exact f j' cs' i' u' hj' hu'
theorem Rows.of_own {base n c : Nat} (h : w.ownsRow base e m (.slice A n c) n css.flatten) (hlen : ∀ cs ∈ css, cs.length = m) (hn : css.length = n) (hm : 0 < m) : Rows w (fun g => (Value.slice A n c).ownBlock = some g) e m A css := by
  intro h0
  rcases h.2 with ⟨hv, hn'⟩ | ⟨g, cap, cur, hv, hb, hg, hnc, hcm, hcs, htake⟩
  · omega
  · simp only [Value.slice.injEq] at hv
    obtain ⟨rfl, _, rfl⟩ := hv
    refine ⟨g, 0, cur, rfl, rfl, hg, fun j cs i u hj hu => ?_⟩
    obtain ⟨hjl, hje⟩ := List.getElem?_eq_some_iff.1 hj
    have hi : i < m := by rw [← hlen cs (List.mem_of_getElem? hj)]; exact (List.getElem?_eq_some_iff.1 hu).1
    have key : ∀ (css : List (List Value)) (j : Nat), (∀ cs ∈ css, cs.length = m) → css[j]? = some cs → css.flatten[j * m + i]? = cs[i]? := by
      intro css
      induction css with
      | nil => intro j _ hj; simp at hj
      | cons r css ih =>
        intro j hl hj
        rw [List.flatten_cons]
        have hr : r.length = m := hl r (by simp)
        cases j with
        | zero =>
          simp only [List.getElem?_cons_zero, Option.some.injEq] at hj
          subst hj
          rw [List.getElem?_append_left (by omega)]
          simp
        | succ j =>
          rw [List.getElem?_append_right (by rw [hr, Nat.add_mul]; omega), hr, show (j + 1) * m + i - m = j * m + i by rw [Nat.add_mul]; omega]
          exact ih j (fun cs hcs => hl cs (by simp [hcs])) (by simpa using hj)
    have hk := key css j hlen hj
    rw [hu, ← htake, List.getElem?_take] at hk
    split at hk
    · rw [Nat.zero_add]; simpa using hk
    · cases hk
theorem RowsRd.below (h : RowsRd w B m A css) (hb : Below B' w w') (hB : B ≤ B') : RowsRd w' B m A css := fun h0 => by
  obtain ⟨b, off, h1, h2, h3⟩ := h h0
  exact ⟨b, off, h1, h2, fun j cs i u hj hu => by rw [hb.cell (by show b < B'; omega)]; exact h3 j cs i u hj hu⟩
theorem RowsRd.more (h : RowsRd w B m A css) (hB : B ≤ B') : RowsRd w B' m A css := fun h0 => by
  obtain ⟨b, off, h1, h2, h3⟩ := h h0
  exact ⟨b, off, h1, by omega, h3⟩
theorem RowsRd.reads {α : Type} {f : α → List Value} {xs : List α} (hf : ∀ a, (f a).length = m) (hm : 0 < m) (h : RowsRd w B m A (xs.map f)) : Reads w B A (xs.flatMap f) := fun h0 => by
  rw [flat_length f m hf] at h0
  have h1 : 0 < xs.length := by rcases Nat.eq_zero_or_pos xs.length with h | h; rw [h] at h0; simp at h0; exact h
  obtain ⟨b, off, h2, h3, h4⟩ := h (by simpa using h1)
  refine ⟨b, off, h2, h3, fun j u hu => ?_⟩
  have hj := (List.getElem?_eq_some_iff.1 hu).1
  rw [flat_length f m hf] at hj
  have hi : j / m < xs.length := Nat.div_lt_of_lt_mul (by rw [Nat.mul_comm]; exact hj)
  have hr : j % m < m := Nat.mod_lt _ hm
  have e1 : j / m * m + j % m = j := by rw [Nat.mul_comm]; exact Nat.div_add_mod j m
  have e2 := flat_at f m hf xs (j / m) (j % m) hi hr
  rw [e1, hu] at e2
  have := h4 (j / m) (f (xs[j / m]'hi)) (j % m) u (by rw [List.getElem?_map, List.getElem?_eq_getElem hi]; rfl) e2.symm
  rw [e1] at this
  exact this
theorem RowsRd.of_reads {α : Type} {f : α → List Value} {xs : List α} (hf : ∀ a, (f a).length = m) (hm : 0 < m) (h : Reads w B A (xs.flatMap f)) : RowsRd w B m A (xs.map f) := fun h0 => by
  have h1 : 0 < xs.length := by simpa using h0
  obtain ⟨b, off, h2, h3, h4⟩ := h (by rw [flat_length f m hf]; exact Nat.mul_pos h1 hm)
  refine ⟨b, off, h2, h3, fun j cs i u hj hu => ?_⟩
  rw [List.getElem?_map] at hj
  cases hx : xs[j]? with
  | none => rw [hx] at hj; cases hj
  | some x =>
    rw [hx] at hj
    simp only [Option.map_some, Option.some.injEq] at hj
    subst hj
    obtain ⟨hl, he⟩ := List.getElem?_eq_some_iff.1 hx
    have hi : i < m := by rw [← hf x]; exact (List.getElem?_eq_some_iff.1 hu).1
    have e2 := flat_at f m hf xs j i hl hi
    rw [he, hu] at e2
    exact h4 _ _ e2
end

/-- How data of a kind lies in m cells: read below a block number; owned in the blocks of a set; how many marks it takes, and what it is when marked from k on; its size. -/
structure Rep (α : Type) where
  m : Nat
  Rd : World → Nat → List Value → α → Prop
  Own : World → (Nat → Prop) → List Value → α → Prop
  cnt : α → Nat
  mark : Nat → α → α
  sz : α → Nat
  rd_len : ∀ {w B cs x}, Rd w B cs x → cs.length = m
  rd_below : ∀ {w w' B B' cs x}, Rd w B cs x → Below B' w w' → B ≤ B' → Rd w' B cs x
  rd_more : ∀ {w B B' cs x}, Rd w B cs x → B ≤ B' → Rd w B' cs x
  own_len : ∀ {w S cs x}, Own w S cs x → cs.length = m
  own_out : ∀ {w w' S T cs x}, Own w S cs x → Out T w w' → (∀ g, S g → ¬ T g) → Own w' S cs x
  own_wide : ∀ {w S T cs x}, Own w S cs x → (∀ g, S g → T g) → Own w T cs x
  own_rd : ∀ {w S B cs x}, Own w S cs x → (∀ g, S g → g < B) → Rd w B cs x
  own_keep : ∀ {w w' S cs x}, Own w S cs x → Below w.heap.size w w' → Own w' S cs x
section
variable {α : Type} (R : Rep α) {w w' : World} {S T : Nat → Prop} {B B' : Nat} {cs : List Value} {x : α}
theorem Rep.own_below (h : R.Own w S cs x) (hb : Below B w w') (hB : ∀ g, S g → g < B) : R.Own w' S cs x := R.own_out h (out_of_below hb) (fun g hg h2 => by have := hB g hg; omega)
theorem Rep.rd_keep (h : R.Rd w B cs x) (hb : Below B w w') (hB : B ≤ B') : R.Rd w' B' cs x := R.rd_more (R.rd_below h hb (Nat.le_refl _)) hB
end
/-- Elements without memory of their own. -/
def Rep.flat {α : Type} (m : Nat) (f : α → List Value) (hf : ∀ a, (f a).length = m) (ok : α → Prop) (cnt : Nat) (mrk : Nat → α → α) (sz : α → Nat) : Rep α where
  m := m
  Rd := fun _ _ cs x => cs = f x ∧ ok x
  Own := fun _ _ cs x => cs = f x ∧ ok x
  cnt := fun _ => cnt
  mark := mrk
  sz := sz
  rd_len := fun h => by rw [h.1, hf]
  rd_below := fun h _ _ => h
  rd_more := fun h _ => h
  own_len := fun h => by rw [h.1, hf]
  own_out := fun h _ _ => h
  own_wide := fun h _ => h
  own_rd := fun h _ => h
  own_keep := fun h _ => h
/-- Two parts, one behind the other, each with memory of its own. -/
def Rep.pair {α β : Type} (R : Rep α) (Q : Rep β) : Rep (α × β) where
  m := R.m + Q.m
  Rd := fun w B cs x => ∃ as bs, cs = as ++ bs ∧ R.Rd w B as x.1 ∧ Q.Rd w B bs x.2
  Own := fun w S cs x => ∃ as bs S1 S2, cs = as ++ bs ∧ R.Own w S1 as x.1 ∧ Q.Own w S2 bs x.2 ∧ (∀ g, S1 g → S g ∧ ¬ S2 g) ∧ (∀ g, S2 g → S g)
  cnt := fun x => R.cnt x.1 + Q.cnt x.2
  mark := fun k x => (R.mark k x.1, Q.mark (k + R.cnt x.1) x.2)
  sz := fun x => R.sz x.1 + Q.sz x.2
  rd_len := fun ⟨as, bs, h, h1, h2⟩ => by rw [h, List.length_append, R.rd_len h1, Q.rd_len h2]
  rd_below := fun ⟨as, bs, h, h1, h2⟩ hb hB => ⟨as, bs, h, R.rd_below h1 hb hB, Q.rd_below h2 hb hB⟩
  rd_more := fun ⟨as, bs, h, h1, h2⟩ hB => ⟨as, bs, h, R.rd_more h1 hB, Q.rd_more h2 hB⟩
  own_len := fun ⟨as, bs, _, _, h, h1, h2, _⟩ => by rw [h, List.length_append, R.own_len h1, Q.own_len h2]
  own_out := fun ⟨as, bs, S1, S2, h, h1, h2, h3, h4⟩ ho hS => ⟨as, bs, S1, S2, h, R.own_out h1 ho (fun g hg => hS g (h3 g hg).1), Q.own_out h2 ho (fun g hg => hS g (h4 g hg)), h3, h4⟩
  own_wide := fun ⟨as, bs, S1, S2, h, h1, h2, h3, h4⟩ hS => ⟨as, bs, S1, S2, h, h1, h2, fun g hg => ⟨hS g (h3 g hg).1, (h3 g hg).2⟩, fun g hg => hS g (h4 g hg)⟩
  own_rd := fun ⟨as, bs, S1, S2, h, h1, h2, h3, h4⟩ hB => ⟨as, bs, h, R.own_rd h1 (fun g hg => hB g (h3 g hg).1), Q.own_rd h2 (fun g hg => hB g (h4 g hg))⟩
  own_keep := fun ⟨as, bs, S1, S2, h, h1, h2, h3, h4⟩ hb => ⟨as, bs, S1, S2, h, R.own_keep h1 hb, Q.own_keep h2 hb, h3, h4⟩
/-- The same data by other names. -/
def Rep.as {α β : Type} (R : Rep α) (to : β → α) (of : α → β) : Rep β where
  m := R.m
  Rd := fun w B cs x => R.Rd w B cs (to x)
  Own := fun w S cs x => R.Own w S cs (to x)
  cnt := fun x => R.cnt (to x)
  mark := fun k x => of (R.mark k (to x))
  sz := fun x => R.sz (to x)
  rd_len := R.rd_len
  rd_below := R.rd_below
  rd_more := R.rd_more
  own_len := R.own_len
  own_out := R.own_out
  own_wide := R.own_wide
  own_rd := R.own_rd
  own_keep := R.own_keep
/-- Marks of a list, one element behind the other. -/
def mkList {α : Type} (R : Rep α) : Nat → List α → List α
  | _, [] => []
  | k, x :: xs => R.mark k x :: mkList R (k + R.cnt x) xs
def cntList {α : Type} (R : Rep α) (xs : List α) : Nat := (xs.map R.cnt).sum
def szList {α : Type} (R : Rep α) (xs : List α) : Nat := xs.length + (xs.map R.sz).sum
/-- The elements lie in the rows css, each in the blocks of its own set. -/
def OwnAll {α : Type} (R : Rep α) (w : World) (Ss : List (Nat → Prop)) (css : List (List Value)) (xs : List α) : Prop :=
  css.length = xs.length ∧ Ss.length = xs.length ∧ ∀ (i : Nat) (S : Nat → Prop) (cs : List Value) (x : α), Ss[i]? = some S → css[i]? = some cs → xs[i]? = some x → R.Own w S cs x
def RdAll {α : Type} (R : Rep α) (w : World) (B : Nat) (css : List (List Value)) (xs : List α) : Prop :=
  css.length = xs.length ∧ ∀ (i : Nat) (cs : List Value) (x : α), css[i]? = some cs → xs[i]? = some x → R.Rd w B cs x
/-- A slice that reads as xs. -/
def SlRd {α : Type} (R : Rep α) (w : World) (B : Nat) (v : Value) (xs : List α) : Prop :=
  ∃ A c css, v = .slice A xs.length c ∧ xs.length ≤ c ∧ c ≤ 9223372036854775807 ∧ RowsRd w B R.m A css ∧ RdAll R w B css xs
/-- A slice that owns its row and all that its elements own, each by itself. -/
def SlOwn {α : Type} (R : Rep α) (e : TypeId) (w : World) (S : Nat → Prop) (v : Value) (xs : List α) : Prop :=
  ∃ A c css S0 Ss, v = .slice A xs.length c ∧ xs.length ≤ c ∧ c ≤ 9223372036854775807 ∧ Rows w S0 e R.m A css ∧ OwnAll R w Ss css xs ∧ (∀ g, S0 g → S g) ∧ (∀ s ∈ Ss, ∀ g, s g → S g ∧ ¬ S0 g) ∧ Ss.Pairwise fun s t => ∀ g, s g → ¬ t g
section
variable {α : Type} {R : Rep α} {e : TypeId} {w w' : World} {S T : Nat → Prop} {B B' : Nat} {v : Value} {xs : List α}
theorem SlRd.below (h : SlRd R w B v xs) (hb : Below B' w w') (hB : B ≤ B') : SlRd R w' B v xs := by
  obtain ⟨A, c, css, h1, h2, h2', h3, h4, h5⟩ := h
  exact ⟨A, c, css, h1, h2, h2', h3.below hb hB, h4, fun i cs x a b => R.rd_below (h5 i cs x a b) hb hB⟩
theorem SlRd.more (h : SlRd R w B v xs) (hB : B ≤ B') : SlRd R w B' v xs := by
  obtain ⟨A, c, css, h1, h2, h2', h3, h4, h5⟩ := h
  exact ⟨A, c, css, h1, h2, h2', h3.more hB, h4, fun i cs x a b => R.rd_more (h5 i cs x a b) hB⟩
theorem SlRd.keep (h : SlRd R w B v xs) (hb : Below B w w') (hB : B ≤ B') : SlRd R w' B' v xs := (h.below hb (Nat.le_refl _)).more hB
theorem SlOwn.out (h : SlOwn R e w S v xs) (ho : Out T w w') (hS : ∀ g, S g → ¬ T g) : SlOwn R e w' S v xs := by
  obtain ⟨A, c, css, S0, Ss, h1, h2, h2', h3, ⟨h4, h5, h6⟩, h7, h8, h9⟩ := h
  exact ⟨A, c, css, S0, Ss, h1, h2, h2', h3.out ho (fun g hg => hS g (h7 g hg)), ⟨h4, h5, fun i s cs x a b d => R.own_out (h6 i s cs x a b d) ho (fun g hg => hS g (h8 s (List.mem_of_getElem? a) g hg).1)⟩, h7, h8, h9⟩
theorem SlOwn.below (h : SlOwn R e w S v xs) (hb : Below B w w') (hB : ∀ g, S g → g < B) : SlOwn R e w' S v xs := h.out (out_of_below hb) (fun g hg h2 => by have := hB g hg; omega)
theorem SlOwn.keep (h : SlOwn R e w S v xs) (hb : Below w.heap.size w w') : SlOwn R e w' S v xs := by
  obtain ⟨A, c, css, S0, Ss, h1, h2, h2', h3, ⟨h4, h5, h6⟩, h7, h8, h9⟩ := h
  exact ⟨A, c, css, S0, Ss, h1, h2, h2', h3.keep hb, ⟨h4, h5, fun i s cs x a b d => R.own_keep (h6 i s cs x a b d) hb⟩, h7, h8, h9⟩
theorem SlOwn.wide (h : SlOwn R e w S v xs) (hS : ∀ g, S g → T g) : SlOwn R e w T v xs := by
  obtain ⟨A, c, css, S0, Ss, h1, h2, h2', h3, h4, h7, h8, h9⟩ := h
  exact ⟨A, c, css, S0, Ss, h1, h2, h2', h3, h4, fun g hg => hS g (h7 g hg), fun s hs g hg => ⟨hS g (h8 s hs g hg).1, (h8 s hs g hg).2⟩, h9⟩
theorem SlOwn.rd (h : SlOwn R e w S v xs) (hB : ∀ g, S g → g < B) : SlRd R w B v xs := by
  obtain ⟨A, c, css, S0, Ss, h1, h2, h2', h3, ⟨h4, h5, h6⟩, h7, h8, h9⟩ := h
  refine ⟨A, c, css, h1, h2, h2', h3.rd (fun g hg => hB g (h7 g hg)), h4, fun i cs x a b => ?_⟩
  have hi : i < Ss.length := by rw [h5]; exact (List.getElem?_eq_some_iff.1 b).1
  exact R.own_rd (h6 i _ cs x (List.getElem?_eq_getElem hi) a b) (fun g hg => hB g (h8 _ (List.getElem_mem hi) g hg).1)
theorem SlRd.form (h : SlRd R w B v xs) : ∃ A c, v = .slice A xs.length c := by
  obtain ⟨A, c, css, h1, _⟩ := h
  exact ⟨A, c, h1⟩
theorem SlOwn.form (h : SlOwn R e w S v xs) : ∃ A c, v = .slice A xs.length c := by
  obtain ⟨A, c, css, S0, Ss, h1, _⟩ := h
  exact ⟨A, c, h1⟩
/-- The element j of a slice: where it lies. -/
theorem SlRd.elem {A : Option Addr} {c n j : Nat} {x : α} (h : SlRd R w B (.slice A n c) xs) (hj : xs[j]? = some x) : ∃ b off cs, A = some ⟨b, off, none⟩ ∧ b < B ∧ R.Rd w B cs x ∧ ∀ (i : Nat) (u : Value), cs[i]? = some u → w.cell? ⟨b, off + (j * R.m + i), none⟩ = some u := by
  obtain ⟨A', c', css, h1, h2, h2', h3, h4, h5⟩ := h
  simp only [Value.slice.injEq] at h1
  obtain ⟨rfl, rfl, rfl⟩ := h1
  have hl := (List.getElem?_eq_some_iff.1 hj).1
  obtain ⟨b, off, q1, q2, q3⟩ := h3 (by omega)
  have hcs := List.getElem?_eq_getElem (l := css) (i := j) (by omega)
  exact ⟨b, off, _, q1, q2, h5 j _ x hcs hj, fun i u hu => q3 j _ i u hcs hu⟩
end
/-- A slice as data in one cell. -/
def Rep.sl {α : Type} (R : Rep α) (e : TypeId) : Rep (List α) where
  m := 1
  Rd := fun w B cs xs => ∃ v, cs = [v] ∧ SlRd R w B v xs
  Own := fun w S cs xs => ∃ v, cs = [v] ∧ SlOwn R e w S v xs
  cnt := cntList R
  mark := mkList R
  sz := szList R
  rd_len := fun ⟨v, h, _⟩ => by rw [h]; rfl
  rd_below := fun ⟨v, h, h2⟩ hb hB => ⟨v, h, h2.below hb hB⟩
  rd_more := fun ⟨v, h, h2⟩ hB => ⟨v, h, h2.more hB⟩
  own_len := fun ⟨v, h, _⟩ => by rw [h]; rfl
  own_out := fun ⟨v, h, h2⟩ ho hS => ⟨v, h, h2.out ho hS⟩
  own_wide := fun ⟨v, h, h2⟩ hS => ⟨v, h, h2.wide hS⟩
  own_rd := fun ⟨v, h, h2⟩ hB => ⟨v, h, h2.rd hB⟩
  own_keep := fun ⟨v, h, h2⟩ hb => ⟨v, h, h2.keep hb⟩
section
variable {α : Type} {m : Nat} {f : α → List Value} {hf : ∀ a, (f a).length = m} {ok : α → Prop} {cn : Nat} {mrk : Nat → α → α} {sz : α → Nat} {e : TypeId} {w : World} {S : Nat → Prop} {B : Nat} {A : Option Addr} {c n : Nat} {xs : List α}
theorem flat_css {css : List (List Value)} (h1 : css.length = xs.length) (h : ∀ (i : Nat) (cs : List Value) (x : α), css[i]? = some cs → xs[i]? = some x → cs = f x) : css = xs.map f := by
  refine List.ext_getElem? fun i => ?_
  rcases Nat.lt_or_ge i xs.length with hi | hi
  · have hi' : i < css.length := by omega
    rw [List.getElem?_eq_getElem hi', List.getElem?_map, List.getElem?_eq_getElem hi]
    simp only [Option.map_some, Option.some.injEq]
    exact h i _ _ (List.getElem?_eq_getElem hi') (List.getElem?_eq_getElem hi)
  · rw [List.getElem?_eq_none (by omega), List.getElem?_eq_none (by simpa using hi)]
theorem pairwise_all {β : Type} {r : β → β → Prop} (h : ∀ a b, r a b) : ∀ l : List β, l.Pairwise r
  | [] => List.Pairwise.nil
  | _ :: l => List.Pairwise.cons (fun _ _ => h _ _) (pairwise_all h l)
/-- Flat elements: the slice is a row. -/
theorem SlRd.of_reads (hm : 0 < m) (h : Reads w B A (xs.flatMap f)) (hc : xs.length ≤ c) (hc' : c ≤ 9223372036854775807) (hok : ∀ x ∈ xs, ok x) : SlRd (Rep.flat m f hf ok cn mrk sz) w B (.slice A xs.length c) xs :=
  ⟨A, c, xs.map f, rfl, hc, hc', RowsRd.of_reads hf hm h, by simp, fun i cs x a b => ⟨by rw [List.getElem?_map, b] at a; simpa using a.symm, hok x (List.mem_of_getElem? b)⟩⟩
theorem SlRd.reads (hm : 0 < m) (h : SlRd (Rep.flat m f hf ok cn mrk sz) w B (.slice A n c) xs) : n = xs.length ∧ Reads w B A (xs.flatMap f) ∧ xs.length ≤ c ∧ c ≤ 9223372036854775807 ∧ ∀ x ∈ xs, ok x := by
  obtain ⟨A', c', css, h1, h2, h2', h3, h4, h5⟩ := h
  simp only [Value.slice.injEq] at h1
  obtain ⟨rfl, rfl, rfl⟩ := h1
  rw [flat_css h4 (fun i cs x a b => (h5 i cs x a b).1)] at h3
  refine ⟨rfl, h3.reads hf hm, h2, h2', fun x hx => ?_⟩
  obtain ⟨i, hi, rfl⟩ := List.mem_iff_getElem.1 hx
  exact (h5 i _ _ (List.getElem?_eq_getElem (by omega)) (List.getElem?_eq_getElem hi)).2
theorem SlOwn.of_rows (h : Rows w S e m A (xs.map f)) (hc : xs.length ≤ c) (hc' : c ≤ 9223372036854775807) (hok : ∀ x ∈ xs, ok x) : SlOwn (Rep.flat m f hf ok cn mrk sz) e w S (.slice A xs.length c) xs :=
  ⟨A, c, xs.map f, S, xs.map fun _ _ => False, rfl, hc, hc', h, ⟨by simp, by simp, fun i s cs x _ a b => ⟨by rw [List.getElem?_map, b] at a; simpa using a.symm, hok x (List.mem_of_getElem? b)⟩⟩, fun _ h => h, fun s hs g hg => by obtain ⟨_, _, rfl⟩ := List.mem_map.1 hs; exact hg.elim,
    by rw [List.pairwise_map]; exact pairwise_all (fun _ _ g hg => hg.elim) xs⟩
theorem SlOwn.rows (h : SlOwn (Rep.flat m f hf ok cn mrk sz) e w S (.slice A n c) xs) : n = xs.length ∧ Rows w S e m A (xs.map f) ∧ xs.length ≤ c ∧ c ≤ 9223372036854775807 ∧ ∀ x ∈ xs, ok x := by
  obtain ⟨A', c', css, S0, Ss, h1, h2, h2', h3, ⟨h4, h5, h6⟩, h7, h8, h9⟩ := h
  simp only [Value.slice.injEq] at h1
  obtain ⟨rfl, rfl, rfl⟩ := h1
  have h6' := fun (i : Nat) (cs : List Value) (x : α) (a : css[i]? = some cs) (b : xs[i]? = some x) => h6 i _ cs x (List.getElem?_eq_getElem (by rw [h5]; exact (List.getElem?_eq_some_iff.1 b).1)) a b
  rw [flat_css h4 (fun i cs x a b => (h6' i cs x a b).1)] at h3
  refine ⟨rfl, h3.wide h7, h2, h2', fun x hx => ?_⟩
  obtain ⟨i, hi, rfl⟩ := List.mem_iff_getElem.1 hx
  exact (h6' i _ _ (List.getElem?_eq_getElem (by omega)) (List.getElem?_eq_getElem hi)).2
/-- A row that is owned, of flat elements. -/
theorem SlOwn.of_own {base : Nat} (hm : 0 < m) (h : w.ownsRow base e m (.slice A xs.length c) xs.length (xs.flatMap f)) (hok : ∀ x ∈ xs, ok x) : SlOwn (Rep.flat m f hf ok cn mrk sz) e w (fun g => (Value.slice A xs.length c).ownBlock = some g) (.slice A xs.length c) xs := by
  refine SlOwn.of_rows (Rows.of_own (by rw [← List.flatMap_def]; exact h) (fun cs hcs => by obtain ⟨x, _, rfl⟩ := List.mem_map.1 hcs; exact hf x) (by simp) hm) (own_cap h) ?_ hok
  rcases h.2 with ⟨hv, hn⟩ | ⟨g, cap, cur, hv, _, _, _, hcm, _⟩
  · simp only [Value.slice.injEq] at hv; omega
  · simp only [Value.slice.injEq] at hv; simp only [maxLen] at hcm; omega
end
theorem map_flat {β : Type} {α : Type} (g : α → β) (xs : List α) : xs.map g = xs.flatMap fun x => [g x] := by induction xs <;> simp_all
theorem own_inR {w : World} {base : Nat} {e : TypeId} {size n c : Nat} {A : Option Addr} {xs : List Value} (h : w.ownsRow base e size (.slice A n c) n xs) : ∀ g, (Value.slice A n c).ownBlock = some g → InR base w.heap.size g := fun g hg => h.lt g hg
theorem own_drew {w : World} {base : Nat} {e : TypeId} {size n : Nat} {v : Value} {xs : List Value} (h : w.ownsRow base e size v n xs) : w.drew.ownsRow base e size v n xs := h
theorem own_drewN {w : World} {base : Nat} {e : TypeId} {size n : Nat} {v : Value} {xs : List Value} (h : w.ownsRow base e size v n xs) (k : Nat) : (w.drewN k).ownsRow base e size v n xs := h
def Off (lo hi : Nat) (g : Nat) : Prop := g < lo ∨ hi ≤ g
theorem Out.alloc {S : Nat → Prop} {a w : World} (h : Out S a w) (o : Obj) : Out S a (w.alloc o) := h.trans (Out.of_below ((Below.refl _ _).alloc (Nat.le_refl _) o))
theorem Out.step {S : Nat → Prop} {a w w' : World} (h : Out S a w) (hb : Below w.heap.size w w') : Out S a w' := h.trans (Out.of_below hb)
theorem Out.off {lo hi : Nat} {w w' : World} (h : Below hi w w') : Out (Off lo hi) w w' := (out_of_below h).wide fun _ hg => .inr hg
theorem Rep.own_off {α : Type} (R : Rep α) {w w' : World} {lo hi : Nat} {cs : List Value} {x : α} (h : R.Own w (InR lo hi) cs x) (ho : Out (Off lo hi) w w') : R.Own w' (InR lo hi) cs x :=
  R.own_out h ho (fun g hg h2 => by have h3 := hg.1; have h4 := hg.2; rcases h2 with h2 | h2 <;> omega)
theorem SlOwn.off {α : Type} {R : Rep α} {e : TypeId} {w w' : World} {lo hi : Nat} {v : Value} {xs : List α} (h : SlOwn R e w (InR lo hi) v xs) (ho : Out (Off lo hi) w w') : SlOwn R e w' (InR lo hi) v xs :=
  h.out ho (fun g hg h2 => by have h3 := hg.1; have h4 := hg.2; rcases h2 with h2 | h2 <;> omega)
theorem Rep.own_offS {α : Type} (R : Rep α) {w w' : World} {lo hi : Nat} {S : Nat → Prop} {cs : List Value} {x : α} (h : R.Own w S cs x) (hs : ∀ g, S g → InR lo hi g) (ho : Out (Off lo hi) w w') : R.Own w' S cs x :=
  R.own_out h ho (fun g hg h2 => by have h3 := (hs g hg).1; have h4 := (hs g hg).2; rcases h2 with h2 | h2 <;> omega)
theorem Rep.rd_in {α : Type} (R : Rep α) {w : World} {lo hi B : Nat} {S : Nat → Prop} {cs : List Value} {x : α} (h : R.Own w S cs x) (hs : ∀ g, S g → InR lo hi g) (hB : hi ≤ B) : R.Rd w B cs x := R.own_rd h (fun g hg => Nat.lt_of_lt_of_le (hs g hg).2 hB)
theorem SlOwn.offS {α : Type} {R : Rep α} {e : TypeId} {w w' : World} {lo hi : Nat} {S : Nat → Prop} {v : Value} {x : List α} (h : SlOwn R e w S v x) (hs : ∀ g, S g → InR lo hi g) (ho : Out (Off lo hi) w w') : SlOwn R e w' S v x :=
  h.out ho (fun g hg h2 => by have h3 := (hs g hg).1; have h4 := (hs g hg).2; rcases h2 with h2 | h2 <;> omega)
theorem SlOwn.rd_in {α : Type} {R : Rep α} {e : TypeId} {w : World} {lo hi B : Nat} {S : Nat → Prop} {v : Value} {x : List α} (h : SlOwn R e w S v x) (hs : ∀ g, S g → InR lo hi g) (hB : hi ≤ B) : SlRd R w B v x := h.rd (fun g hg => Nat.lt_of_lt_of_le (hs g hg).2 hB)
theorem inR_mono {lo hi lo' hi' : Nat} (h1 : lo' ≤ lo) (h2 : hi ≤ hi') : ∀ g, InR lo hi g → InR lo' hi' g := fun g hg => ⟨Nat.le_trans h1 hg.1, Nat.lt_of_lt_of_le hg.2 h2⟩
theorem inR_apart {lo hi lo' hi' : Nat} (h : hi ≤ lo' ∨ hi' ≤ lo) : ∀ g, InR lo hi g → ¬ InR lo' hi' g := fun g hg hg' => by have h1 := hg.1; have h2 := hg.2; have h3 := hg'.1; have h4 := hg'.2; omega
def byteR : Rep UInt8 := Rep.flat 1 (fun x => [byteV x]) (fun _ => rfl) (fun _ => True) 1 (fun k _ => UInt8.ofNat k) (fun _ => 0)
def intR : Rep Int := Rep.flat 1 (fun x => [intV x]) (fun _ => rfl) (fun _ => True) 1 (fun k _ => (k : Int)) (fun _ => 0)
end Go.Proofs.YtoijmnnjcoogkaaDoor

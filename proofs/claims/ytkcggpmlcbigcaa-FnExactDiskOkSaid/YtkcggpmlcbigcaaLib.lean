/- Small facts on memory: a slice that reads as a list, a row that is being filled, what lies below a block number. -/
import Derived.WalkKit
import Derived.WalkSpells
import Derived.WalkLawsBesides
import Derived.Lib.Hide
import Derived.Deep.QuietTactic
import Derived.BigQuiet
import Derived.Deep.RegionHeld3
namespace Go.Proofs.Ytkcggpmlcbigcaa
open Go.RowKit

theorem bcell {W w1 : World} (hb : Below W.heap.size W w1) : (∀ b o, b < W.heap.size → w1.cell? ⟨b, o, none⟩ = W.cell? ⟨b, o, none⟩) ∧ (∀ b o, b < W.heap.size → w1.frozen? ⟨b, o, none⟩ = W.frozen? ⟨b, o, none⟩) :=
  ⟨fun b o h => hb.cell (p := ⟨b, o, none⟩) h, fun b o h => hb.frozen (p := ⟨b, o, none⟩) h⟩

/-- A block below B is as it was: its cells and its marks. -/
theorem box {B : Nat} {w w' : World} (hb : Below B w w') (g : Nat) (h : g < B) : (∀ o, w'.cell? ⟨g, o, none⟩ = w.cell? ⟨g, o, none⟩) ∧ (∀ o, w'.frozen? ⟨g, o, none⟩ = w.frozen? ⟨g, o, none⟩) :=
  ⟨fun o => hb.cell (p := ⟨g, o, none⟩) h, fun o => hb.frozen (p := ⟨g, o, none⟩) h⟩

/-- Block g is known whole: just the cells cs, none of them frozen. -/
def Blk (w : World) (g : Nat) (t : TypeId) (cs : Array Value) : Prop := w.heap[g]? = some (.cells cs t (0, 0))
section
variable {w w' : World} {g : Nat} {t : TypeId} {cs : Array Value}
theorem Blk.lt (h : Blk w g t cs) : g < w.heap.size := by
  rcases Nat.lt_or_ge g w.heap.size with hlt | hge
  · exact hlt
  · unfold Blk at h; rw [Array.getElem?_eq_none hge] at h; cases h
theorem Blk.cell (h : Blk w g t cs) (i : Nat) : w.cell? ⟨g, i, none⟩ = cs[i]? := cell_of_row w g i cs t (0, 0) h
theorem Blk.frozen (h : Blk w g t cs) (i : Nat) : w.frozen? ⟨g, i, none⟩ = false := by
  unfold Blk at h
  simp [World.frozen?, h]
theorem Blk.new (w : World) (t : TypeId) (cs : Array Value) : Blk (w.alloc (.cells cs t)) w.heap.size t cs := heap_alloc_new w _
theorem Blk.drew (h : Blk w g t cs) : Blk w.drew g t cs := h
theorem Blk.drewN (h : Blk w g t cs) (n : Nat) : Blk (w.drewN n) g t cs := h
theorem Blk.alloc (h : Blk w g t cs) (o : Obj) : Blk (w.alloc o) g t cs := (Below.heap_alloc w o g h.lt).trans h
theorem Blk.set_ (h : Blk w g t cs) (i : Nat) (u : Value) : Blk (w.setCell ⟨g, i, none⟩ u) g t (cs.setIfInBounds i u) := by
  unfold Blk at h ⊢
  simp [World.setCell, Array.getElem?_modify, h]
theorem Blk.far (h : Blk w g t cs) {p : Addr} (hp : g ≠ p.block) (u : Value) : Blk (w.setCell p u) g t cs := (Below.heap_setCell w p u g hp).trans h
theorem Blk.below {B : Nat} (h : Blk w g t cs) (hb : Below B w w') (hg : g < B) : Blk w' g t cs := (hb.block g hg).trans h
theorem Blk.grown {row : Option Nat} (h : Blk w g t cs) (hb : w.grownBy w' row) (hg : some g ≠ row) : Blk w' g t cs := (hb.block g h.lt hg).trans h
/-- Nothing that was there turns: a block stays. -/
theorem Blk.keep (h : Blk w g t cs) (hb : Below w.heap.size w w') : Blk w' g t cs := h.below hb h.lt
end

/-- The slice with the address A holds the cells xs, in a block below B; an empty one may have any address. -/
def Reads (w : World) (B : Nat) (A : Option Addr) (xs : List Value) : Prop :=
  0 < xs.length → ∃ b off, A = some ⟨b, off, none⟩ ∧ b < B ∧ ∀ j u, xs[j]? = some u → w.cell? ⟨b, off + j, none⟩ = some u

theorem Reads.nil {w : World} {B : Nat} {A : Option Addr} : Reads w B A [] := fun h => absurd h (by simp)
theorem Reads.below {w w' : World} {B B' : Nat} {A : Option Addr} {xs : List Value} (h : Reads w B A xs) (hb : Below B' w w') (hB : B ≤ B') : Reads w' B A xs := fun h0 => by
  obtain ⟨b, off, h1, h2, h3⟩ := h h0
  exact ⟨b, off, h1, h2, fun j u hj => by rw [hb.cell (by show b < B'; omega)]; exact h3 j u hj⟩
theorem Reads.more {w : World} {B B' : Nat} {A : Option Addr} {xs : List Value} (h : Reads w B A xs) (hB : B ≤ B') : Reads w B' A xs := fun h0 => by
  obtain ⟨b, off, h1, h2, h3⟩ := h h0
  exact ⟨b, off, h1, by omega, h3⟩
theorem Reads.keep {w w' : World} {B B' : Nat} {A : Option Addr} {xs : List Value} (h : Reads w B A xs) (hb : Below B w w') (hB : B ≤ B') : Reads w' B' A xs := (h.below hb (Nat.le_refl _)).more hB
theorem Reads.at_ {w wr : World} {B B' : Nat} {A : Option Addr} {xs : List Value} {k : Nat} (h : Reads w B A xs) (hk : k < xs.length) (hb : Below B' w wr) (hB : B ≤ B') :
    ∃ b off, A = some ⟨b, off, none⟩ ∧ b < B ∧ wr.cell? ⟨b, off + k, none⟩ = some (xs[k]'hk) := by
  obtain ⟨b, off, h1, h2, h3⟩ := h (by omega)
  exact ⟨b, off, h1, h2, by rw [hb.cell (by show b < B'; omega)]; exact h3 k _ (List.getElem?_eq_getElem hk)⟩
theorem Reads.of_own {w : World} {base : Nat} {e : TypeId} {size n c : Nat} {A : Option Addr} {xs : List Value} (h : w.ownsRow base e size (.slice A n c) n xs) : Reads w w.heap.size A xs := by
  intro h0
  rcases h.2 with ⟨hv, hn⟩ | ⟨g, cap, cur, hv, _, hg, hnc, hcm, hcs, htake⟩
  · have := h.1; rw [hn] at this; simp at this; simp [this] at h0
  · simp only [Value.slice.injEq] at hv
    obtain ⟨rfl, _, rfl⟩ := hv
    refine ⟨g, 0, rfl, (Array.getElem?_eq_some_iff.1 hg).1, fun j u hu => ?_⟩
    rw [Nat.zero_add, cell_of_row w g j cur e (0, 0) hg]
    rw [← htake, List.getElem?_take] at hu
    split at hu
    · simpa using hu
    · cases hu

/-- A value that is owned is a slice; its length stands in it. -/
theorem own_slice {w : World} {base : Nat} {e : TypeId} {size n : Nat} {v : Value} {xs : List Value} (h : w.ownsRow base e size v n xs) : ∃ A c, v = .slice A n c := by
  rcases h.2 with ⟨rfl, rfl⟩ | ⟨g, cap, cur, rfl, _⟩
  · exact ⟨_, _, rfl⟩
  · exact ⟨_, _, rfl⟩
theorem own_below {w w' : World} {base : Nat} {e : TypeId} {size n : Nat} {v : Value} {xs : List Value} (h : w.ownsRow base e size v n xs) (hb : Below w.heap.size w w') : w'.ownsRow base e size v n xs := by
  refine ⟨h.1, ?_⟩
  rcases h.2 with hn | ⟨g, cap, cur, rfl, h0, hg, rest⟩
  · exact .inl hn
  · exact .inr ⟨g, cap, cur, rfl, h0, by rw [hb.block g (Array.getElem?_eq_some_iff.1 hg).1]; exact hg, rest⟩
theorem own_base {w : World} {base base' : Nat} {e : TypeId} {size n : Nat} {v : Value} {xs : List Value} (h : w.ownsRow base e size v n xs) (hb : base' ≤ base) : w.ownsRow base' e size v n xs := by
  refine ⟨h.1, ?_⟩
  rcases h.2 with hn | ⟨g, cap, cur, rfl, h0, rest⟩
  · exact .inl hn
  · exact .inr ⟨g, cap, cur, rfl, by omega, rest⟩

/-- The row that is being filled: the first k cells are those of xs. -/
def Filled (w : World) (B g : Nat) (e : TypeId) (n : Nat) (xs : List Value) (k : Nat) : Prop :=
  ∃ ys, w.ownsRow B e 1 (.slice (some ⟨g, 0, none⟩) n n) n ys ∧ ys.take k = xs.take k ∧ xs.length = n
theorem Filled.start {w : World} {B g : Nat} {e : TypeId} {n : Nat} {xs ys : List Value} (h : w.ownsRow B e 1 (.slice (some ⟨g, 0, none⟩) n n) n ys) (hx : xs.length = n) : Filled w B g e n xs 0 := ⟨ys, h, rfl, hx⟩
theorem Filled.step {w : World} {B g : Nat} {e : TypeId} {n k : Nat} {xs : List Value} {u : Value} (h : Filled w B g e n xs k) (hu : xs[k]? = some u) :
    Filled (w.setCell ⟨g, k, none⟩ u) B g e n xs (k + 1) := by
  obtain ⟨ys, h1, h2, h3⟩ := h
  refine ⟨ys.set k u, (h1.stored k u).1, ?_, h3⟩
  have hk : k < xs.length := (List.getElem?_eq_some_iff.1 hu).1
  have hky : k < ys.length := by have := h1.1; omega
  rw [List.take_succ_eq_append_getElem (by simpa using hky), List.take_set_of_le (by omega), h2, List.take_succ_eq_append_getElem hk]
  simp [(List.getElem?_eq_some_iff.1 hu).2]
theorem Filled.done {w : World} {B g : Nat} {e : TypeId} {n : Nat} {xs : List Value} (h : Filled w B g e n xs n) : w.ownsRow B e 1 (.slice (some ⟨g, 0, none⟩) n n) n xs := by
  obtain ⟨ys, h1, h2, h3⟩ := h
  have : ys = xs := by
    have e1 := List.take_of_length_le (l := ys) (i := n) (by have := h1.1; omega)
    have e2 := List.take_of_length_le (l := xs) (i := n) (by omega)
    rw [← e1, h2, e2]
  rw [← this]; exact h1
theorem Filled.cell {w : World} {B g : Nat} {e : TypeId} {n k : Nat} {xs : List Value} (h : Filled w B g e n xs k) (hk : k < n) : (∃ u', w.cell? ⟨g, k, none⟩ = some u') ∧ w.frozen? ⟨g, k, none⟩ = false := by
  obtain ⟨ys, h1, _, _⟩ := h
  exact ⟨⟨ys[k]'(by have := h1.1; omega), by rw [h1.cellAt k (by omega), List.getElem?_eq_getElem]⟩, h1.frozenAt k⟩
/-- The element at k of a mapped list, by one name for both of its spellings. -/
theorem map_at {α : Type} (f : α → Value) (xs : List α) (k : Nat) (h : k < (xs.map f).length) : ∃ u, (xs.map f)[k]'h = f u ∧ (xs.map f)[k]? = some (f u) ∧ xs[k]? = some u := by
  have h' : k < xs.length := by simpa using h
  exact ⟨xs[k], by simp, by simp [List.getElem?_eq_getElem h'], List.getElem?_eq_getElem h'⟩

/-- Only draws lie between the two worlds. -/
def Still (w w' : World) : Prop := ∃ m, w' = w.drewN m
theorem Still.refl (w : World) : Still w w := ⟨0, rfl⟩
theorem below_drewN {B : Nat} {a w : World} (h : Below B a w) (m : Nat) : Below B a (w.drewN m) := ⟨h.os, h.tape, h.output, h.size, h.block⟩
theorem Still.below {w w' : World} (h : Still w w') (B : Nat) : Below B w w' := by
  obtain ⟨m, rfl⟩ := h
  exact below_drewN (Below.refl _ _) m
theorem Still.drewN {w w' : World} (h : Still w w') (n : Nat) : Still w (w'.drewN n) := by
  obtain ⟨m, rfl⟩ := h
  exact ⟨m + n, by simp [World.drewN, Nat.add_assoc]⟩
theorem Still.drew {w w' : World} (h : Still w w') : Still w w'.drew := by
  obtain ⟨m, rfl⟩ := h
  exact ⟨m + 1, rfl⟩
theorem Still.trans {a b c : World} (h : Still a b) (h' : Still b c) : Still a c := by
  obtain ⟨m, rfl⟩ := h'
  exact h.drewN m
theorem still_drewN (w : World) (n : Nat) : Still w (w.drewN n) := ⟨n, rfl⟩
theorem ret_int {k : IntKind} {a b : Int} (h : a = b) : Ending.returned (.int k a) = .returned (.int k b) := by rw [h]
theorem ret_bool {a b : Bool} (h : a = b) : Ending.returned (.bool a) = .returned (.bool b) := by rw [h]
theorem take_eq_succ {α : Type} {xs ys : List α} {k : Nat} (h : xs.take k = ys.take k) (hk : k < xs.length) (hy : k < ys.length) (he : xs[k] = ys[k]) : xs.take (k + 1) = ys.take (k + 1) := by
  rw [List.take_succ_eq_append_getElem hk, List.take_succ_eq_append_getElem hy, h, he]
theorem eq_of_take {α : Type} {xs ys : List α} {n : Nat} (h : xs.take n = ys.take n) (hx : xs.length = n) (hy : ys.length = n) : xs = ys := by
  rw [← List.take_of_length_le (l := xs) (i := n) (by omega), h, List.take_of_length_le (by omega)]

theorem ne_of_at {α : Type} [DecidableEq α] {xs ys : List α} {k : Nat} {u v : α} (hu : xs[k]? = some u) (hv : ys[k]? = some v) (h : u ≠ v) : decide (xs = ys) = false := by
  simp only [decide_eq_false_iff_not]
  rintro rfl
  rw [hu] at hv
  exact h (Option.some.inj hv)
theorem ne_of_len {α : Type} [DecidableEq α] {xs ys : List α} {n m : Nat} (hx : xs.length = n) (hy : ys.length = m) (h : n ≠ m) : decide (xs = ys) = false := by
  simp only [decide_eq_false_iff_not]
  rintro rfl
  exact h (hx.symm.trans hy)
theorem take_step {α : Type} {xs ys : List α} {k : Nat} {u v : α} (h : xs.take k = ys.take k) (hu : xs[k]? = some u) (hv : ys[k]? = some v) (he : u = v) : xs.take (k + 1) = ys.take (k + 1) := by
  subst he
  obtain ⟨h1, e1⟩ := List.getElem?_eq_some_iff.1 hu
  obtain ⟨h2, e2⟩ := List.getElem?_eq_some_iff.1 hv
  exact take_eq_succ h h1 h2 (e1.trans e2.symm)
theorem byte_eq {u v : UInt8} (h : ((u.toNat : Int) != (v.toNat : Int)) = false) : u = v := by
  have : (u.toNat : Int) = v.toNat := by simpa using h
  exact UInt8.toNat_inj.1 (by omega)
theorem byte_ne {u v : UInt8} (h : ((u.toNat : Int) != (v.toNat : Int)) = true) : u ≠ v := by
  rintro rfl
  simp at h

theorem own_setCell {w : World} {base : Nat} {e : TypeId} {size n : Nat} {v : Value} {xs : List Value} (h : w.ownsRow base e size v n xs) {a : Addr} (ha : a.block < base) (u : Value) : (w.setCell a u).ownsRow base e size v n xs := ownsRow_setCell_below h ha u
theorem own_lt {w : World} {base : Nat} {e : TypeId} {size n : Nat} {v : Value} {xs : List Value} (h : w.ownsRow base e size v n xs) : ∀ g, v.ownBlock = some g → g < w.heap.size := fun g hg => (h.lt g hg).2

def byteV (b : UInt8) : Value := .int .u8 b.toNat
def intV (n : Int) : Value := .int .i64 n
theorem getElem?_byteV (xs : List UInt8) (k : Nat) : (xs.map byteV)[k]? = xs[k]?.map byteV := by simp
end Go.Proofs.Ytkcggpmlcbigcaa

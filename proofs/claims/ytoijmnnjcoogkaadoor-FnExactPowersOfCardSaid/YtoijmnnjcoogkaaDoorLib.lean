/- Small facts on memory: a slice that reads as a list, a row that is being filled, what lies below a block number. -/
import Derived.WalkKit
import Derived.WalkSpells
import Derived.WalkLawsBesides
import Derived.Lib.Hide
import Derived.Deep.QuietTactic
import Derived.BigQuiet
import Derived.Deep.RegionHeld3
import Derived.Deep.RegionWith
import Derived.StillTailTactics
import Derived.Deep.AppendLies
import Derived.Deep.RegionLaw
set_option linter.unusedSimpArgs false
set_option linter.unusedVariables false
set_option maxRecDepth 20000
namespace Go.Proofs.YtoijmnnjcoogkaaDoor
open Go.RowKit

theorem bcell {W w1 : World} (hb : Below W.heap.size W w1) : (∀ b o, b < W.heap.size → w1.cell? ⟨b, o, none⟩ = W.cell? ⟨b, o, none⟩) ∧ (∀ b o, b < W.heap.size → w1.frozen? ⟨b, o, none⟩ = W.frozen? ⟨b, o, none⟩) :=
  ⟨fun b o h => hb.cell (p := ⟨b, o, none⟩) h, fun b o h => hb.frozen (p := ⟨b, o, none⟩) h⟩

/-- A block below B is as it was: its cells and its marks. -/
theorem box {B : Nat} {w w' : World} (hb : Below B w w') (g : Nat) (h : g < B) : (∀ o, w'.cell? ⟨g, o, none⟩ = w.cell? ⟨g, o, none⟩) ∧ (∀ o, w'.frozen? ⟨g, o, none⟩ = w.frozen? ⟨g, o, none⟩) :=
  ⟨fun o => hb.cell (p := ⟨g, o, none⟩) h, fun o => hb.frozen (p := ⟨g, o, none⟩) h⟩

/-- Block g is known whole: just the cells cs, none of them frozen. -/
def Blk (w : World) (g : Nat) (t : TypeId) (cs : Array Value) : Prop := w.heap[g]? = some (.cells cs t (0, 0))
section
variable {w w' : World} {g : Nat} {t : TypeId} {cs : Array Value}
theorem Blk.lt (h : Blk w g t cs) : g < w.heap.size := by
  rcases Nat.lt_or_ge g w.heap.size with hlt | hge
  · exact hlt
  · unfold Blk at h; rw [Array.getElem?_eq_none hge] at h; cases h
theorem Blk.cell (h : Blk w g t cs) (i : Nat) : w.cell? ⟨g, i, none⟩ = cs[i]? := cell_of_row w g i cs t (0, 0) h
theorem Blk.frozen (h : Blk w g t cs) (i : Nat) : w.frozen? ⟨g, i, none⟩ = false := by
  unfold Blk at h
  simp [World.frozen?, h]
theorem Blk.new (w : World) (t : TypeId) (cs : Array Value) : Blk (w.alloc (.cells cs t)) w.heap.size t cs := heap_alloc_new w _
theorem Blk.new' {w : World} {g : Nat} {t : TypeId} {cs : Array Value} (h : g = w.heap.size) : Blk (w.alloc (.cells cs t)) g t cs := by rw [h]; exact heap_alloc_new w _
theorem Blk.drew (h : Blk w g t cs) : Blk w.drew g t cs := h
theorem Blk.drewN (h : Blk w g t cs) (n : Nat) : Blk (w.drewN n) g t cs := h
theorem Blk.alloc (h : Blk w g t cs) (o : Obj) : Blk (w.alloc o) g t cs := (Below.heap_alloc w o g h.lt).trans h
theorem Blk.set_ (h : Blk w g t cs) (i : Nat) (u : Value) : Blk (w.setCell ⟨g, i, none⟩ u) g t (cs.setIfInBounds i u) := by
  unfold Blk at h ⊢
  simp [World.setCell, Array.getElem?_modify, h]
theorem Blk.far (h : Blk w g t cs) {p : Addr} (hp : g ≠ p.block) (u : Value) : Blk (w.setCell p u) g t cs := (Below.heap_setCell w p u g hp).trans h
theorem Blk.below {B : Nat} (h : Blk w g t cs) (hb : Below B w w') (hg : g < B) : Blk w' g t cs := (hb.block g hg).trans h
theorem Blk.grown {row : Option Nat} (h : Blk w g t cs) (hb : w.grownBy w' row) (hg : some g ≠ row) : Blk w' g t cs := (hb.block g h.lt hg).trans h
/-- Nothing that was there turns: a block stays. -/
theorem Blk.keep (h : Blk w g t cs) (hb : Below w.heap.size w w') : Blk w' g t cs := h.below hb h.lt
end

/-- The worlds in which nothing that was there in W has turned: of a region whose calls make memory and hand back plain values. -/
def Lt (W : World) := { w' : World // Below W.heap.size W w' }
instance instLt (W : World) : Inhabited (Lt W) := ⟨⟨W, Below.refl _ _⟩⟩
def later (W : World) (x : Lt W) : World := x.1
theorem later_below (W : World) (x : Lt W) : Below W.heap.size W (later W x) := x.2
theorem later_self (W : World) : ∃ x : Lt W, W = later W x := ⟨⟨W, Below.refl _ _⟩, rfl⟩
theorem later_drew (W : World) : ∃ x : Lt W, { W with drawn := W.drawn + 1 } = later W x := ⟨⟨W.drew, (Below.refl _ _).drew⟩, rfl⟩
theorem later_cell {W : World} {a : Addr} {v : Value} (h : W.cell? a = some v) (x : Lt W) : (later W x).cell? a = some v := ((later_below W x).cell (World.block_lt_of_cell? W a h)).trans h
theorem Blk.later {W : World} {g : Nat} {t : TypeId} {cs : Array Value} (h : Blk W g t cs) (x : Lt W) (i : Nat) : (later W x).cell? ⟨g, i, none⟩ = cs[i]? := (h.keep (later_below W x)).cell i
theorem Calls.later_of {P : Program} {f : FuncId} {args : Array Value} {W : World} {n : Lt W} {v : Value} (h : Calls P f args (later W n) fun e w' => e = .returned v ∧ Below (later W n).heap.size (later W n) w') :
    Calls P f args (later W n) fun e w'' => e = .returned v ∧ ∃ m, w'' = later W m :=
  h.mono fun _ w' ⟨he, hb⟩ => ⟨he, ⟨⟨w', (later_below W n).trans (hb.mono (later_below W n).size)⟩, rfl⟩⟩
theorem Calls.later_same {P : Program} {f : FuncId} {args : Array Value} {W : World} {n : Lt W} {v : Value} (h : Calls P f args (later W n) fun e w' => e = .returned v ∧ later W n = w') :
    Calls P f args (later W n) fun e w'' => e = .returned v ∧ ∃ m, w'' = later W m :=
  h.mono fun _ w' ⟨he, hb⟩ => ⟨he, ⟨n, hb.symm⟩⟩
theorem wp_region_later {P : Program} {id : Nat} {Q : Exit → Act → World → Prop} {a : Act} {W : World} {l : List Oper} (hm : P.follows .mixedOrders = true) (hB : Region.lexB .any l.toArray = true)
    (h : wpQuiet P l.toArray (fun w' => ∃ n : Lt W, w' = later W n) (fun a' => ∀ w', Below W.heap.size W w' → Q .normal a' w') l a) : (Code.region id l.toArray true).wp P Q a W :=
  wp_region_quiet (C := fun w' => ∃ n : Lt W, w' = later W n) hm hB (later_drew W) (by
    have key : ∀ (l' : List Oper) (a : Act), wpQuiet P l.toArray (fun w' => ∃ n : Lt W, w' = later W n) (fun a' => ∀ w', Below W.heap.size W w' → Q .normal a' w') l' a →
        wpQuiet P l.toArray (fun w' => ∃ n : Lt W, w' = later W n) (fun a' => ∀ w', (∃ n : Lt W, w' = later W n) → Q .normal a' w') l' a := by
      intro l'
      induction l' with
      | nil => intro a h w' hw; obtain ⟨n, rfl⟩ := hw; exact h _ (later_below W n)
      | cons o rest ih =>
        intro a h
        by_cases hw : Region.wanted o (yielded l.toArray a.tmps) = true
        · simp only [wpQuiet, hw, if_true] at h ⊢
          exact Oper.quiet_mono ih h
        · simp only [wpQuiet, hw] at h ⊢
          exact ih _ h
    simpa using key l a h)

/-- The slice with the address A holds the cells xs, in a block below B; an empty one may have any address. -/
def Reads (w : World) (B : Nat) (A : Option Addr) (xs : List Value) : Prop :=
  0 < xs.length → ∃ b off, A = some ⟨b, off, none⟩ ∧ b < B ∧ ∀ j u, xs[j]? = some u → w.cell? ⟨b, off + j, none⟩ = some u

theorem Reads.nil {w : World} {B : Nat} {A : Option Addr} : Reads w B A [] := fun h => absurd h (by simp)
theorem Reads.below {w w' : World} {B B' : Nat} {A : Option Addr} {xs : List Value} (h : Reads w B A xs) (hb : Below B' w w') (hB : B ≤ B') : Reads w' B A xs := fun h0 => by
  obtain ⟨b, off, h1, h2, h3⟩ := h h0
  exact ⟨b, off, h1, h2, fun j u hj => by rw [hb.cell (by show b < B'; omega)]; exact h3 j u hj⟩
theorem Reads.more {w : World} {B B' : Nat} {A : Option Addr} {xs : List Value} (h : Reads w B A xs) (hB : B ≤ B') : Reads w B' A xs := fun h0 => by
  obtain ⟨b, off, h1, h2, h3⟩ := h h0
  exact ⟨b, off, h1, by omega, h3⟩
theorem Reads.keep {w w' : World} {B B' : Nat} {A : Option Addr} {xs : List Value} (h : Reads w B A xs) (hb : Below B w w') (hB : B ≤ B') : Reads w' B' A xs := (h.below hb (Nat.le_refl _)).more hB
theorem Reads.at_ {w wr : World} {B B' : Nat} {A : Option Addr} {xs : List Value} {k : Nat} (h : Reads w B A xs) (hk : k < xs.length) (hb : Below B' w wr) (hB : B ≤ B') :
    ∃ b off, A = some ⟨b, off, none⟩ ∧ b < B ∧ wr.cell? ⟨b, off + k, none⟩ = some (xs[k]'hk) := by
  obtain ⟨b, off, h1, h2, h3⟩ := h (by omega)
  exact ⟨b, off, h1, h2, by rw [hb.cell (by show b < B'; omega)]; exact h3 k _ (List.getElem?_eq_getElem hk)⟩
theorem Reads.get {w wr : World} {B B' : Nat} {A : Option Addr} {xs : List Value} {k : Nat} {u : Value} (h : Reads w B A xs) (hu : xs[k]? = some u) (hb : Below B' w wr) (hB : B ≤ B') :
    ∃ b off, A = some ⟨b, off, none⟩ ∧ b < B ∧ wr.cell? ⟨b, off + k, none⟩ = some u := by
  obtain ⟨hk, e⟩ := List.getElem?_eq_some_iff.1 hu
  obtain ⟨b, off, h1, h2, h3⟩ := h.at_ hk hb hB
  exact ⟨b, off, h1, h2, by rw [h3, e]⟩
theorem Reads.of_blk {w : World} {g : Nat} {t : TypeId} {cs : Array Value} (h : Blk w g t cs) : Reads w w.heap.size (some ⟨g, 0, none⟩) cs.toList :=
  fun _ => ⟨g, 0, rfl, h.lt, fun j u hu => by rw [Nat.zero_add, h.cell]; simpa using hu⟩
theorem Reads.of_own {w : World} {base : Nat} {e : TypeId} {size n c : Nat} {A : Option Addr} {xs : List Value} (h : w.ownsRow base e size (.slice A n c) n xs) : Reads w w.heap.size A xs := by
  intro h0
  rcases h.2 with ⟨hv, hn⟩ | ⟨g, cap, cur, hv, _, hg, hnc, hcm, hcs, htake⟩
  · have := h.1; rw [hn] at this; simp at this; simp [this] at h0
  · simp only [Value.slice.injEq] at hv
    obtain ⟨rfl, _, rfl⟩ := hv
    refine ⟨g, 0, rfl, (Array.getElem?_eq_some_iff.1 hg).1, fun j u hu => ?_⟩
    rw [Nat.zero_add, cell_of_row w g j cur e (0, 0) hg]
    rw [← htake, List.getElem?_take] at hu
    split at hu
    · simpa using hu
    · cases hu

/-- A value that is owned is a slice; its length stands in it. -/
theorem own_slice {w : World} {base : Nat} {e : TypeId} {size n : Nat} {v : Value} {xs : List Value} (h : w.ownsRow base e size v n xs) : ∃ A c, v = .slice A n c := by
  rcases h.2 with ⟨rfl, rfl⟩ | ⟨g, cap, cur, rfl, _⟩
  · exact ⟨_, _, rfl⟩
  · exact ⟨_, _, rfl⟩
theorem own_below {w w' : World} {base : Nat} {e : TypeId} {size n : Nat} {v : Value} {xs : List Value} (h : w.ownsRow base e size v n xs) (hb : Below w.heap.size w w') : w'.ownsRow base e size v n xs := by
  refine ⟨h.1, ?_⟩
  rcases h.2 with hn | ⟨g, cap, cur, rfl, h0, hg, rest⟩
  · exact .inl hn
  · exact .inr ⟨g, cap, cur, rfl, h0, by rw [hb.block g (Array.getElem?_eq_some_iff.1 hg).1]; exact hg, rest⟩
theorem own_base {w : World} {base base' : Nat} {e : TypeId} {size n : Nat} {v : Value} {xs : List Value} (h : w.ownsRow base e size v n xs) (hb : base' ≤ base) : w.ownsRow base' e size v n xs := by
  refine ⟨h.1, ?_⟩
  rcases h.2 with hn | ⟨g, cap, cur, rfl, h0, rest⟩
  · exact .inl hn
  · exact .inr ⟨g, cap, cur, rfl, by omega, rest⟩

/-- The row that is being filled, cell by cell: the first j cells are those of xs. -/
def Filled (w : World) (B g : Nat) (e : TypeId) (m n : Nat) (xs : List Value) (j : Nat) : Prop :=
  ∃ ys, w.ownsRow B e m (.slice (some ⟨g, 0, none⟩) n n) n ys ∧ ys.take j = xs.take j ∧ xs.length = n * m
section
variable {w : World} {B g : Nat} {e : TypeId} {m n j : Nat} {xs : List Value}
theorem Filled.start {ys : List Value} (h : w.ownsRow B e m (.slice (some ⟨g, 0, none⟩) n n) n ys) (hx : xs.length = n * m) : Filled w B g e m n xs 0 := ⟨ys, h, rfl, hx⟩
theorem Filled.step {u : Value} (h : Filled w B g e m n xs j) (hu : xs[j]? = some u) : Filled (w.setCell ⟨g, j, none⟩ u) B g e m n xs (j + 1) := by
  obtain ⟨ys, h1, h2, h3⟩ := h
  refine ⟨ys.set j u, (h1.stored j u).1, ?_, h3⟩
  have hk : j < xs.length := (List.getElem?_eq_some_iff.1 hu).1
  have hky : j < ys.length := by have := h1.1; omega
  rw [List.take_succ_eq_append_getElem (by simpa using hky), List.take_set_of_le (by omega), h2, List.take_succ_eq_append_getElem hk]
  simp [(List.getElem?_eq_some_iff.1 hu).2]
theorem Filled.done (h : Filled w B g e m n xs (n * m)) : w.ownsRow B e m (.slice (some ⟨g, 0, none⟩) n n) n xs := by
  obtain ⟨ys, h1, h2, h3⟩ := h
  have : ys = xs := by
    have e1 := List.take_of_length_le (l := ys) (i := n * m) (by have := h1.1; omega)
    have e2 := List.take_of_length_le (l := xs) (i := n * m) (by omega)
    rw [← e1, h2, e2]
  rw [← this]; exact h1
theorem Filled.cell (h : Filled w B g e m n xs j) (i : Nat) (hk : i < n * m) : (∃ u', w.cell? ⟨g, i, none⟩ = some u') ∧ w.frozen? ⟨g, i, none⟩ = false := by
  obtain ⟨ys, h1, _, _⟩ := h
  exact ⟨⟨ys[i]'(by have := h1.1; omega), by rw [h1.cellAt i (by omega), List.getElem?_eq_getElem]⟩, h1.frozenAt i⟩
theorem Filled.below {w' : World} (h : Filled w B g e m n xs j) (hb : Below w.heap.size w w') : Filled w' B g e m n xs j := by
  obtain ⟨ys, h1, h2, h3⟩ := h
  refine ⟨ys, ?_, h2, h3⟩
  refine ⟨h1.1, ?_⟩
  rcases h1.2 with hn | ⟨g, cap, cur, hv, h0, hg, rest⟩
  · exact .inl hn
  · exact .inr ⟨g, cap, cur, hv, h0, by rw [hb.block g (Array.getElem?_eq_some_iff.1 hg).1]; exact hg, rest⟩
end
/-- The element at k of a mapped list, by one name for both of its spellings. -/
theorem map_at {α : Type} (f : α → Value) (xs : List α) (k : Nat) (h : k < (xs.map f).length) : ∃ u, (xs.map f)[k]'h = f u ∧ (xs.map f)[k]? = some (f u) ∧ xs[k]? = some u := by
  have h' : k < xs.length := by simpa using h
  exact ⟨xs[k], by simp, by simp [List.getElem?_eq_getElem h'], List.getElem?_eq_getElem h'⟩

/-- Only draws lie between the two worlds. -/
def Still (w w' : World) : Prop := ∃ m, w' = w.drewN m
theorem Still.refl (w : World) : Still w w := ⟨0, rfl⟩
theorem below_drewN {B : Nat} {a w : World} (h : Below B a w) (m : Nat) : Below B a (w.drewN m) := ⟨h.os, h.tape, h.output, h.size, h.block⟩
theorem Still.below {w w' : World} (h : Still w w') (B : Nat) : Below B w w' := by
  obtain ⟨m, rfl⟩ := h
  exact below_drewN (Below.refl _ _) m
theorem Still.drewN {w w' : World} (h : Still w w') (n : Nat) : Still w (w'.drewN n) := by
  obtain ⟨m, rfl⟩ := h
  exact ⟨m + n, by simp [World.drewN, Nat.add_assoc]⟩
theorem Still.drew {w w' : World} (h : Still w w') : Still w w'.drew := by
  obtain ⟨m, rfl⟩ := h
  exact ⟨m + 1, rfl⟩
theorem Still.trans {a b c : World} (h : Still a b) (h' : Still b c) : Still a c := by
  obtain ⟨m, rfl⟩ := h'
  exact h.drewN m
theorem still_drewN (w : World) (n : Nat) : Still w (w.drewN n) := ⟨n, rfl⟩
theorem Calls.cast {P : Program} {f : FuncId} {args args' : Array Value} {w : World} {R : Ending → World → Prop} (h : args' = args) (hc : Calls P f args w R) : Calls P f args' w R := by rw [h]; exact hc
theorem ret_int {k : IntKind} {a b : Int} (h : a = b) : Ending.returned (.int k a) = .returned (.int k b) := by rw [h]
theorem ret_bool {a b : Bool} (h : a = b) : Ending.returned (.bool a) = .returned (.bool b) := by rw [h]
theorem take_eq_succ {α : Type} {xs ys : List α} {k : Nat} (h : xs.take k = ys.take k) (hk : k < xs.length) (hy : k < ys.length) (he : xs[k] = ys[k]) : xs.take (k + 1) = ys.take (k + 1) := by
  rw [List.take_succ_eq_append_getElem hk, List.take_succ_eq_append_getElem hy, h, he]
theorem eq_of_take {α : Type} {xs ys : List α} {n : Nat} (h : xs.take n = ys.take n) (hx : xs.length = n) (hy : ys.length = n) : xs = ys := by
  rw [← List.take_of_length_le (l := xs) (i := n) (by omega), h, List.take_of_length_le (by omega)]

theorem ne_of_at {α : Type} [DecidableEq α] {xs ys : List α} {k : Nat} {u v : α} (hu : xs[k]? = some u) (hv : ys[k]? = some v) (h : u ≠ v) : decide (xs = ys) = false := by
  simp only [decide_eq_false_iff_not]
  rintro rfl
  rw [hu] at hv
  exact h (Option.some.inj hv)
theorem ne_of_len {α : Type} [DecidableEq α] {xs ys : List α} {n m : Nat} (hx : xs.length = n) (hy : ys.length = m) (h : n ≠ m) : decide (xs = ys) = false := by
  simp only [decide_eq_false_iff_not]
  rintro rfl
  exact h (hx.symm.trans hy)
theorem take_step {α : Type} {xs ys : List α} {k : Nat} {u v : α} (h : xs.take k = ys.take k) (hu : xs[k]? = some u) (hv : ys[k]? = some v) (he : u = v) : xs.take (k + 1) = ys.take (k + 1) := by
  subst he
  obtain ⟨h1, e1⟩ := List.getElem?_eq_some_iff.1 hu
  obtain ⟨h2, e2⟩ := List.getElem?_eq_some_iff.1 hv
  exact take_eq_succ h h1 h2 (e1.trans e2.symm)
theorem take_snoc {α : Type} {xs : List α} {k : Nat} {u : α} (h : xs[k]? = some u) : xs.take (k + 1) = xs.take k ++ [u] := by
  obtain ⟨h1, h2⟩ := List.getElem?_eq_some_iff.1 h
  rw [List.take_succ_eq_append_getElem h1, h2]
theorem byte_eq {u v : UInt8} (h : ((u.toNat : Int) != (v.toNat : Int)) = false) : u = v := by
  have : (u.toNat : Int) = v.toNat := by simpa using h
  exact UInt8.toNat_inj.1 (by omega)
theorem int_eq {u v : Int} (h : (u != v) = false) : u = v := by simpa using h
theorem int_ne {u v : Int} (h : (u != v) = true) : u ≠ v := by simpa using h
theorem byte_ne {u v : UInt8} (h : ((u.toNat : Int) != (v.toNat : Int)) = true) : u ≠ v := by
  rintro rfl
  simp at h

theorem own_setCell {w : World} {base : Nat} {e : TypeId} {size n : Nat} {v : Value} {xs : List Value} (h : w.ownsRow base e size v n xs) {a : Addr} (ha : a.block < base) (u : Value) : (w.setCell a u).ownsRow base e size v n xs := ownsRow_setCell_below h ha u
theorem own_lt {w : World} {base : Nat} {e : TypeId} {size n : Nat} {v : Value} {xs : List Value} (h : w.ownsRow base e size v n xs) : ∀ g, v.ownBlock = some g → g < w.heap.size := fun g hg => (h.lt g hg).2

/-- The cells of a row of structs: the element k, its cell j. -/
theorem flat_at {α : Type} (f : α → List Value) (m : Nat) (hf : ∀ a, (f a).length = m) : ∀ (xs : List α) (k j : Nat) (hk : k < xs.length), j < m → (xs.flatMap f)[k * m + j]? = (f (xs[k]'hk))[j]?
  | [], k, _, hk, _ => absurd hk (by simp)
  | x :: xs, 0, j, _, hj => by
    simp only [List.flatMap_cons, Nat.zero_mul, Nat.zero_add, List.getElem_cons_zero]
    rw [List.getElem?_append_left (by rw [hf]; exact hj)]
  | x :: xs, k + 1, j, hk, hj => by
    simp only [List.flatMap_cons, List.getElem_cons_succ]
    rw [List.getElem?_append_right (by rw [hf, Nat.add_mul]; omega), hf, show (k + 1) * m + j - m = k * m + j from by rw [Nat.add_mul]; omega]
    exact flat_at f m hf xs k j (by simpa using hk) hj
theorem flat_length {α : Type} (f : α → List Value) (m : Nat) (hf : ∀ a, (f a).length = m) (xs : List α) : (xs.flatMap f).length = xs.length * m := by
  induction xs with
  | nil => simp
  | cons x xs ih => simp [ih, hf, Nat.add_mul, Nat.add_comm]
/-- A readable row of structs at its element k: where it lies. -/
theorem Reads.elem {α : Type} {f : α → List Value} {m : Nat} (hf : ∀ a, (f a).length = m) (hm : 0 < m) {w wr : World} {B B' : Nat} {A : Option Addr} {xs : List α} {k : Nat} (h : Reads w B A (xs.flatMap f)) (hk : k < xs.length) (hb : Below B' w wr) (hB : B ≤ B') :
    ∃ b off, A = some ⟨b, off, none⟩ ∧ b < B ∧ ∀ j, j < m → wr.cell? ⟨b, off + k * m + j, none⟩ = (f (xs[k]'hk))[j]? := by
  have hl : k * m + m ≤ (xs.flatMap f).length := by
    rw [flat_length f m hf, ← Nat.succ_mul]
    exact Nat.mul_le_mul_right m hk
  obtain ⟨b, off, h1, h2, h3⟩ := h (by omega)
  refine ⟨b, off, h1, h2, fun j hj => ?_⟩
  rw [hb.cell (by show b < B'; omega)]
  have e := flat_at f m hf xs k j hk hj
  have hj' : k * m + j < (xs.flatMap f).length := by omega
  rw [List.getElem?_eq_getElem hj'] at e
  rw [Nat.add_assoc, h3 _ _ (List.getElem?_eq_getElem hj')]
  exact e
/-- The same at an address that is known. -/
theorem Reads.elem_at {α : Type} {f : α → List Value} {m : Nat} (hf : ∀ a, (f a).length = m) (hm : 0 < m) {w wr : World} {B : Nat} {b off : Nat} {xs : List α} {k : Nat} (h : Reads w B (some ⟨b, off, none⟩) (xs.flatMap f)) (hk : k < xs.length) (hb : Below B w wr) :
    ∀ j, j < m → wr.cell? ⟨b, off + k * m + j, none⟩ = (f (xs[k]'hk))[j]? := by
  obtain ⟨b', off', h1, _, h3⟩ := h.elem hf hm hk hb (Nat.le_refl _)
  simp only [Option.some.injEq, Addr.mk.injEq, and_true] at h1
  obtain ⟨rfl, rfl⟩ := h1
  exact h3
theorem Reads.prefix_ {w : World} {B : Nat} {A : Option Addr} {xs ys : List Value} (h : Reads w B A (xs ++ ys)) : Reads w B A xs := fun h0 => by
  obtain ⟨b, off, h1, h2, h3⟩ := h (by simp; omega)
  exact ⟨b, off, h1, h2, fun j u hu => h3 j u (by rw [List.getElem?_append_left (List.getElem?_eq_some_iff.1 hu).1]; exact hu)⟩
theorem Reads.takeE {α : Type} {f : α → List Value} {w : World} {B : Nat} {A : Option Addr} {xs : List α} (h : Reads w B A (xs.flatMap f)) (k : Nat) : Reads w B A ((xs.take k).flatMap f) := by
  rw [← List.take_append_drop k xs, List.flatMap_append] at h
  exact h.prefix_
theorem own_cap {w : World} {base : Nat} {e : TypeId} {size n c : Nat} {A : Option Addr} {xs : List Value} (h : w.ownsRow base e size (.slice A n c) n xs) : n ≤ c := by
  rcases h.2 with ⟨hv, hn⟩ | ⟨g, cap, cur, hv, _, _, hnc, _⟩
  · omega
  · simp only [Value.slice.injEq] at hv
    omega

def byteV (b : UInt8) : Value := .int .u8 b.toNat
def intV (n : Int) : Value := .int .i64 n
def strV (s : ByteArray) : Value := .string s
def strSum (xs : List ByteArray) : Nat := (xs.map (·.size)).sum
theorem strSum_append (xs ys : List ByteArray) : strSum (xs ++ ys) = strSum xs + strSum ys := by simp [strSum]
theorem strSum_succ {xs : List ByteArray} {k : Nat} (h : k < xs.length) : strSum (xs.take (k + 1)) = strSum (xs.take k) + (xs[k]'h).size := by
  rw [List.take_succ_eq_append_getElem h, strSum_append]
  simp [strSum]
theorem strSum_get {xs : List ByteArray} {k : Nat} (h : k < xs.length) : strSum (xs.take k) + (xs[k]'h).size ≤ strSum xs := by
  rw [← strSum_succ h]
  have := strSum_append (xs.take (k + 1)) (xs.drop (k + 1))
  rw [List.take_append_drop] at this
  omega
theorem bytes_inj {u v : ByteArray} (h : u.toList = v.toList) : u = v := by
  rw [ByteArray.toList_eq, ByteArray.toList_eq] at h
  cases u with
  | mk a => cases v with
    | mk b => simp only at h; rw [Array.toList_inj.1 h]
theorem str_eq {u v : ByteArray} (h : (!u.toList == v.toList) = false) : u = v := bytes_inj (by simpa using h)
theorem str_ne {u v : ByteArray} (h : (!u.toList == v.toList) = true) : u ≠ v := by
  rintro rfl
  simp at h
theorem getElem?_byteV (xs : List UInt8) (k : Nat) : (xs.map byteV)[k]? = xs[k]?.map byteV := by simp
/-- What is left behind a size. -/
def leftOf (left : Int) (n : Nat) : Int := if left - n < 0 then -1 else left - n
theorem leftOf_neg {l : Int} {n m : Nat} (h : leftOf l n < 0) : leftOf l (n + m) = -1 := by unfold leftOf at *; split at h <;> split <;> omega
theorem leftOf_add {l : Int} {n m : Nat} (h : 0 ≤ leftOf l n) : leftOf (leftOf l n) m = leftOf l (n + m) := by unfold leftOf at *; split at h <;> (repeat' split) <;> omega
theorem leftOf_bd {l : Int} {n : Nat} (h : l ≤ 1048576) : -1 ≤ leftOf l n ∧ leftOf l n ≤ 1048576 := by unfold leftOf; split <;> omega
theorem leftOf_le {l : Int} {n : Nat} (h : 0 ≤ leftOf l n) : (n : Int) ≤ l := by unfold leftOf at h; split at h <;> omega
/-- Outside S nothing turns; the streams stay. -/
structure Out (S : Nat → Prop) (w w' : World) : Prop where
  os : w'.os = w.os
  tape : w'.tape = w.tape
  output : w'.output = w.output
  size : w.heap.size ≤ w'.heap.size
  block : ∀ k, k < w.heap.size → ¬ S k → w'.heap[k]? = w.heap[k]?
def InR (lo hi : Nat) (k : Nat) : Prop := lo ≤ k ∧ k < hi
theorem Out.refl (S : Nat → Prop) (w : World) : Out S w w := ⟨rfl, rfl, rfl, Nat.le_refl _, fun _ _ _ => rfl⟩
theorem Out.trans {S : Nat → Prop} {a b c : World} (h : Out S a b) (k : Out S b c) : Out S a c :=
  ⟨k.os.trans h.os, k.tape.trans h.tape, k.output.trans h.output, Nat.le_trans h.size k.size, fun i hi hs => (k.block i (Nat.lt_of_lt_of_le hi h.size) hs).trans (h.block i hi hs)⟩
theorem Out.below {S : Nat → Prop} {w w' : World} (h : Out S w w') {B : Nat} (hB : B ≤ w.heap.size) (hS : ∀ k, S k → B ≤ k) : Below B w w' :=
  ⟨h.os, h.tape, h.output, h.size, fun k hk => h.block k (by omega) (fun hs => by have := hS k hs; omega)⟩
theorem Out.of_below {S : Nat → Prop} {w w' : World} (h : Below w.heap.size w w') : Out S w w' := ⟨h.os, h.tape, h.output, h.size, fun k hk _ => h.block k hk⟩
theorem Out.setCell {S : Nat → Prop} {a w : World} (h : Out S a w) {p : Addr} (hp : S p.block) (u : Value) : Out S a (w.setCell p u) :=
  h.trans ⟨rfl, rfl, rfl, by simp, fun k _ hs => Below.heap_setCell _ _ _ _ (fun e => hs (e ▸ hp))⟩
theorem Out.drew {S : Nat → Prop} {a w : World} (h : Out S a w) : Out S a w.drew := h.trans ⟨rfl, rfl, rfl, Nat.le_refl _, fun _ _ _ => rfl⟩
theorem Out.drewN {S : Nat → Prop} {a w : World} (h : Out S a w) (n : Nat) : Out S a (w.drewN n) := h.trans ⟨rfl, rfl, rfl, Nat.le_refl _, fun _ _ _ => rfl⟩
theorem Out.wide {S T : Nat → Prop} {w w' : World} (h : Out S w w') (hT : ∀ k, S k → T k) : Out T w w' := ⟨h.os, h.tape, h.output, h.size, fun k hk hn => h.block k hk (fun hs => hn (hT k hs))⟩
theorem Blk.out {S : Nat → Prop} {w w' : World} {g : Nat} {t : TypeId} {cs : Array Value} (h : Blk w g t cs) (ho : Out S w w') (hg : ¬ S g) : Blk w' g t cs := (ho.block g h.lt hg).trans h

/-- The slice with the address A holds the cells xs in new memory: in a block from lo on and below hi, of element type e, none of it frozen. -/
def Win (w : World) (lo hi : Nat) (e : TypeId) (A : Option Addr) (xs : List Value) : Prop :=
  0 < xs.length → ∃ g off cur, A = some ⟨g, off, none⟩ ∧ lo ≤ g ∧ g < hi ∧ w.heap[g]? = some (.cells cur e (0, 0)) ∧ (cur.toList.drop off).take xs.length = xs
section
variable {w w' : World} {lo hi lo' hi' : Nat} {e : TypeId} {A : Option Addr} {xs : List Value}
theorem Win.nil : Win w lo hi e A [] := fun h => absurd h (by simp)
theorem Win.of_own {base size n c : Nat} (h : w.ownsRow base e size (.slice A n c) n xs) : Win w base w.heap.size e A xs := by
  intro h0
  rcases h.2 with ⟨hv, hn⟩ | ⟨g, cap, cur, hv, hb, hg, hnc, hcm, hcs, htake⟩
  · have := h.1; rw [hn] at this; simp at this; simp [this] at h0
  · simp only [Value.slice.injEq] at hv
    obtain ⟨rfl, _, rfl⟩ := hv
    refine ⟨g, 0, cur, rfl, hb, (Array.getElem?_eq_some_iff.1 hg).1, hg, ?_⟩
    rw [List.drop_zero, h.1]
    exact htake
theorem Win.wide (h : Win w lo hi e A xs) (h1 : lo' ≤ lo) (h2 : hi ≤ hi') : Win w lo' hi' e A xs := fun h0 => by
  obtain ⟨g, off, cur, a, b, c, d, f⟩ := h h0
  exact ⟨g, off, cur, a, by omega, by omega, d, f⟩
theorem Win.out {S : Nat → Prop} (h : Win w lo hi e A xs) (ho : Out S w w') (hS : ∀ g, lo ≤ g → g < hi → ¬ S g) (hw : hi ≤ w.heap.size) : Win w' lo hi e A xs := fun h0 => by
  obtain ⟨g, off, cur, a, b, c, d, f⟩ := h h0
  exact ⟨g, off, cur, a, b, c, by rw [ho.block g (by omega) (hS g b c)]; exact d, f⟩
theorem Win.below {B : Nat} (h : Win w lo hi e A xs) (hb : Below B w w') (hB : hi ≤ B) : Win w' lo hi e A xs := fun h0 => by
  obtain ⟨g, off, cur, a, b, c, d, f⟩ := h h0
  exact ⟨g, off, cur, a, b, c, by rw [hb.block g (by omega)]; exact d, f⟩
theorem Win.at_ (h : Win w lo hi e A xs) {j : Nat} (hj : j < xs.length) : ∃ g off, A = some ⟨g, off, none⟩ ∧ lo ≤ g ∧ g < hi ∧ w.cell? ⟨g, off + j, none⟩ = some (xs[j]'hj) ∧ w.frozen? ⟨g, off + j, none⟩ = false := by
  obtain ⟨g, off, cur, a, b, c, d, f⟩ := h (by omega)
  refine ⟨g, off, a, b, c, ?_, frozen_of_row w g _ cur e d⟩
  rw [cell_of_row w g _ cur e (0, 0) d]
  have h2 : ((cur.toList.drop off).take xs.length)[j]? = xs[j]? := by rw [f]
  rw [List.getElem?_take, if_pos hj, List.getElem?_drop, List.getElem?_eq_getElem hj] at h2
  rw [← h2]
  simp
theorem Win.reads (h : Win w lo hi e A xs) : Reads w hi A xs := fun h0 => by
  obtain ⟨g, off, cur, a, b, c, d, f⟩ := h h0
  refine ⟨g, off, a, c, fun j u hu => ?_⟩
  rw [cell_of_row w g _ cur e (0, 0) d]
  rw [← f, List.getElem?_take] at hu
  split at hu
  · simpa using hu
  · cases hu
theorem Win.setC (h : Win w lo hi e A xs) {g off : Nat} (hA : A = some ⟨g, off, none⟩) {j : Nat} (u : Value) (hj : j < xs.length) : Win (w.setCell ⟨g, off + j, none⟩ u) lo hi e A (xs.set j u) := by
  intro h0
  obtain ⟨g', off', cur, a, b, c, d, f⟩ := h (by simpa using h0)
  rw [hA] at a
  simp only [Option.some.injEq, Addr.mk.injEq, and_true] at a
  obtain ⟨rfl, rfl⟩ := a
  refine ⟨g, off, cur.setIfInBounds (off + j) u, hA, b, c, heap_setCell_same w g (off + j) cur e u d, ?_⟩
  rw [List.length_set, Array.toList_setIfInBounds]
  rw [List.drop_set, if_neg (by omega), List.take_set, f, show off + j - off = j from by omega]
end
/-- A row in new memory that is being marked: its first j cells are those of ms. -/
def Marked (w : World) (lo hi : Nat) (e : TypeId) (A : Option Addr) (ms : List Value) (j : Nat) : Prop := ∃ ys, Win w lo hi e A ys ∧ ys.length = ms.length ∧ ys.take j = ms.take j
section
variable {w w' : World} {lo hi : Nat} {e : TypeId} {A : Option Addr} {ms : List Value} {j : Nat}
theorem Marked.start {ys : List Value} (h : Win w lo hi e A ys) (hl : ys.length = ms.length) : Marked w lo hi e A ms 0 := ⟨ys, h, hl, rfl⟩
theorem Marked.at_ (h : Marked w lo hi e A ms j) {i : Nat} (hi' : i < ms.length) : ∃ g off, A = some ⟨g, off, none⟩ ∧ lo ≤ g ∧ g < hi ∧ (∃ u, w.cell? ⟨g, off + i, none⟩ = some u) ∧ w.frozen? ⟨g, off + i, none⟩ = false := by
  obtain ⟨ys, h1, h2, _⟩ := h
  obtain ⟨g, off, a, b, c, d, f⟩ := h1.at_ (j := i) (by omega)
  exact ⟨g, off, a, b, c, ⟨_, d⟩, f⟩
theorem Marked.step {g off : Nat} (h : Marked w lo hi e (some ⟨g, off, none⟩) ms j) {u : Value} (hu : ms[j]? = some u) : Marked (w.setCell ⟨g, off + j, none⟩ u) lo hi e (some ⟨g, off, none⟩) ms (j + 1) := by
  obtain ⟨ys, h1, h2, h3⟩ := h
  have hj : j < ms.length := (List.getElem?_eq_some_iff.1 hu).1
  refine ⟨ys.set j u, h1.setC rfl u (by omega), by simpa using h2, ?_⟩
  rw [List.take_succ_eq_append_getElem (by simp; omega), List.take_set_of_le (by omega), h3, List.take_succ_eq_append_getElem hj]
  simp [(List.getElem?_eq_some_iff.1 hu).2]
theorem Marked.done' {n : Nat} (h : Marked w lo hi e A ms n) (hl : ms.length = n) : Win w lo hi e A ms := by
  subst hl
  obtain ⟨ys, h1, h2, h3⟩ := h
  rw [List.take_of_length_le (by omega), List.take_of_length_le (by omega)] at h3
  rw [← h3]; exact h1
theorem Marked.done (h : Marked w lo hi e A ms ms.length) : Win w lo hi e A ms := by
  obtain ⟨ys, h1, h2, h3⟩ := h
  rw [List.take_of_length_le (by omega), List.take_of_length_le (by omega)] at h3
  rw [← h3]; exact h1
end
/-- The marks k, k + 1, .. as integers. -/
def markInts (k n : Nat) : List Value := (List.range n).map fun i => .int .i64 ((k + i : Nat) : Int)
theorem markInts_len (k n : Nat) : (markInts k n).length = n := by simp [markInts]
def markBytes (k n : Nat) : List Value := (List.range n).map fun i => .int .u8 (((k + i) % 256 : Nat) : Int)
theorem markBytes_len (k n : Nat) : (markBytes k n).length = n := by simp [markBytes]
theorem markBytes_at (k n i : Nat) (h : i < n) : (markBytes k n)[i]? = some (.int .u8 (((k + i) % 256 : Nat) : Int)) := by simp [markBytes, h]
theorem markInts_at (k n i : Nat) (h : i < n) : (markInts k n)[i]? = some (.int .i64 ((k + i : Nat) : Int)) := by simp [markInts, h]
end Go.Proofs.YtoijmnnjcoogkaaDoor

/- Data that can be read apart from some blocks. -/
import Derived.Test.YtohfnpohmieknaaDoorCur
set_option linter.unusedSimpArgs false
set_option linter.unusedVariables false
set_option maxRecDepth 20000
namespace Go.Proofs.YtohfnpohmieknaaDoor
open Go.RowKit
def Low (n : Nat) (g : Nat) : Prop := g < n
/-- Cells that can be read, in a block that is none of X. -/
def RdIn (w : World) (X : Nat → Prop) (A : Option Addr) (xs : List Value) : Prop := Reads w w.heap.size A xs ∧ ∀ b off i, A = some ⟨b, off, i⟩ → 0 < xs.length → ¬ X b
theorem RdIn.out {w w' : World} {X T : Nat → Prop} {A : Option Addr} {xs : List Value} (h : RdIn w X A xs) (ho : Out T w w') (hT : ∀ g, T g → X g) : RdIn w' X A xs := by
  obtain ⟨h1, h2⟩ := h
  refine ⟨fun h0 => ?_, h2⟩
  obtain ⟨b, off, e, hb, hc⟩ := h1 h0
  have hnx := h2 b off none e h0
  refine ⟨b, off, e, Nat.lt_of_lt_of_le hb ho.size, fun j u hu => ?_⟩
  rw [← hc j u hu]
  unfold World.cell?
  rw [ho.block b hb (fun ht => hnx (hT b ht))]
theorem RdIn.keep {w w' : World} {X : Nat → Prop} {A : Option Addr} {xs : List Value} (h : RdIn w X A xs) (hb : Below w.heap.size w w') : RdIn w' X A xs := h.out (T := fun _ => False) (Out.of_below hb) (fun _ h => h.elim)
theorem RdIn.weak {w : World} {X X' : Nat → Prop} {A : Option Addr} {xs : List Value} (h : RdIn w X A xs) (hX : ∀ b, X' b → X b ∨ w.heap.size ≤ b) : RdIn w X' A xs := by
  obtain ⟨h1, h2⟩ := h
  refine ⟨h1, fun b off i e h0 hx => ?_⟩
  obtain ⟨b', off', e', hb, -⟩ := h1 h0
  rw [e] at e'
  injection e' with e'
  injection e' with e1 e2 e3
  rcases hX b hx with h | h
  · exact h2 b off i e h0 h
  · omega
theorem RdIn.nil {w : World} {X : Nat → Prop} {A : Option Addr} : RdIn w X A [] := ⟨Reads.nil, fun _ _ _ _ h => absurd h (by simp)⟩
theorem RdIn.own {w : World} {base size n c : Nat} {e : TypeId} {X : Nat → Prop} {A : Option Addr} {xs : List Value} (h : w.ownsRow base e size (.slice A n c) n xs) (hX : ∀ b, X b → b < base ∨ ∀ q, (Value.slice A n c).ownBlock = some q → q ≠ b) : RdIn w X A xs := by
  refine ⟨Reads.of_own h, fun b off i ea h0 hx => ?_⟩
  have hb : (Value.slice A n c).ownBlock = some b := by rw [ea]; rfl
  rcases hX b hx with h1 | h1
  · have := (h.lt b hb).1; omega
  · exact h1 b hb rfl
end Go.Proofs.YtohfnpohmieknaaDoor

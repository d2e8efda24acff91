/- Small facts for the scans. spec.ScanFrames: the walk (printed by wip/gen/genscan.py). -/
import Derived.Test.YtndgaakfndokgaaPureScan
import Derived.Test.YtndgaakfndokgaaGrow
set_option linter.unusedSimpArgs false
set_option linter.unusedVariables false
set_option maxRecDepth 20000
namespace Go.Proofs.Ytndgaakfndokgaa
open Go.RowKit
theorem sl_bytes {w : World} {B n : Nat} {A : Option Addr} {c : Nat} {xs : List UInt8} (hn : xs.length = n) (hr : Reads w B A (xs.map byteV)) (hc : n ≤ c) (hc2 : c ≤ 9223372036854775807) : SlRd byteR w B (.slice A n c) xs := by
  subst hn; exact of_rd_ByteS hr hc hc2
theorem head_at {b : List UInt8} {a : Nat} {x y : UInt8} (hx : b[a]? = some x) (hy : b[a + 1]? = some y) : 256 * (x.toNat : Int) + y.toNat = (headN b a : Int) := by
  unfold headN
  rw [List.getD_eq_getElem?_getD, List.getD_eq_getElem?_getD, hx, hy]
  simp
theorem head_or {x y : Nat} (hx : x < 256) (hy : y < 256) : bits .or .i64 ((x : Int) * 256) (y : Int) = 256 * (x : Int) + y := by
  have h1 : (x : Int) * 256 = ((2 ^ 8 * x : Nat) : Int) := by omega
  have h2 : 2 ^ 8 * x < 2 ^ 63 := by omega
  have h3 : y < 2 ^ 63 := by omega
  rw [h1, (bits_nat .i64 63 (by decide) wraps_i64 (2 ^ 8 * x) y h2 h3).2, ← Nat.two_pow_add_eq_or_of_lt (by omega : y < 2 ^ 8)]
  omega
theorem body_len {b : List UInt8} {a : Nat} (h : a + headN b a + 6 ≤ b.length) : (bodyB b a).length = headN b a := by unfold bodyB; rw [List.length_take, List.length_drop]; omega
theorem tail_len {b : List UInt8} {a : Nat} (h : a + headN b a + 6 ≤ b.length) : (tailB b a).length = 4 := by unfold tailB; rw [List.length_take, List.length_drop]; omega
/-- b[e:h] of a readable row, its bounds spelled in any way. -/
theorem run_part' {w : World} {B : Nat} {A : Option Addr} {c m : Nat} {b : List UInt8} (hr : Reads w B A (b.map byteV)) (hm : b.length = m) (e n : Nat) (h : e + n ≤ m) (hc : m ≤ c) {l u : Int} (hl : l = e) (hu : u = (e : Int) + n) :
    ∃ A', Reads w B A' (((b.drop e).take n).map byteV) ∧ ∀ W, (Instr.slice 22 (.slice A m c) (some (.int .i64 l)) (some (.int .i64 u)) none).run Try.prog W = .ok (.slice A' n (c - e)) W := by
  subst hl hu hm
  exact run_part hr e n h hc
/-- b[e:] of a readable row. -/
theorem run_rest {w : World} {B : Nat} {A : Option Addr} {c m : Nat} {b : List UInt8} (hr : Reads w B A (b.map byteV)) (hm : b.length = m) (e : Nat) (h : e ≤ m) (hc : m ≤ c) :
    ∃ A', Reads w B A' ((b.drop e).map byteV) ∧ ∀ W, (Instr.slice 22 (.slice A m c) (some (.int .i64 (e : Int))) none none).run Try.prog W = .ok (.slice A' (m - e) (c - e)) W := by
  subst hm
  have ht : Try.prog.underlying 22 = some (.slice (Try.prog.elem 22)) := by kernel_rfl
  have hz : ∀ W, (sizeOf (Try.prog.elem 22)).run Try.prog W = .ok 1 W := fun W => by rw [show Try.prog.elem 22 = 5 by kernel_rfl]; simp [go_sem]
  refine ⟨if c = e then A else A.map (·.add (e * 1)), ?_, fun W => ?_⟩
  · intro h0
    simp at h0
    rw [if_neg (by omega)]
    obtain ⟨g, off, h1, h2, h3⟩ := hr (by simp; omega)
    subst h1
    refine ⟨g, off + e, by simp [addr_add_none], h2, fun j u hu => ?_⟩
    rw [Nat.add_assoc]
    refine h3 (e + j) u ?_
    rw [List.map_drop, List.getElem?_drop] at hu
    exact hu
  · rw [run_slice_l W 22 A b.length c ht .i64 e (by omega) (by omega), hz]
    simp [Result.andThen, sliced]
theorem wide4_impl (x : Nat) (w : World) (hx : x ≤ 4294967296) : Calls Try.prog 52 #[.slice none 0 0, .int .i64 x, .int .i64 4] w fun e w' => ∃ A1 c1, e = .returned (.slice A1 4 c1) ∧ Reads w' w'.heap.size A1 ((wideB x 4).map byteV) ∧ Below w.heap.size w w' :=
  (impl_bigEndian w.heap.size none 0 [] x 4 w (World.ownsRow_nil _ _ _ _) (Nat.le_refl _) hx (by omega) (by simp)).mono fun e w' ⟨A1, c1, h1, h2, h3⟩ => ⟨A1, c1, by rw [List.nil_append, wideB_len] at h1; exact h1, by rw [List.nil_append] at h2; exact Reads.of_own h2, h3⟩
theorem same_impl (A A' : Option Addr) (c c' n m : Nat) (xs ys : List UInt8) (w : World) (hx : xs.length = n) (hy : ys.length = m) (hr : Reads w w.heap.size A (xs.map byteV)) (hr' : Reads w w.heap.size A' (ys.map byteV)) {b : Bool} (hb : decide (ys = xs) = b) :
    Calls Try.prog 51 #[.slice A n c, .slice A' m c'] w fun e w' => e = .returned (.bool b) ∧ Still w w' := by
  subst hx hy hb
  exact (bytes_Equal A A' c c' xs ys w hr hr').mono fun e w' ⟨h1, h2⟩ => ⟨by rw [h1]; exact ret_bool (by rw [Bool.eq_iff_iff]; simp only [decide_eq_true_eq]; exact eq_comm), by rw [← h2]; exact Still.refl _⟩
end Go.Proofs.Ytndgaakfndokgaa
namespace Go.Proofs.Ytndgaakfndokgaa
open Go.RowKit
end Go.Proofs.Ytndgaakfndokgaa

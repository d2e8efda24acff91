/- Contracts of the helpers on []uint8 (printed by wip/gen/gen2.py). -/
import Derived.Test.YtohfnpohmieknaaDoorByteS
import Derived.Test.YtohfnpohmieknaaDoorRep
set_option linter.unusedSimpArgs false
set_option linter.unusedVariables false
set_option maxRecDepth 20000
namespace Go.Proofs.YtohfnpohmieknaaDoor
open Go.RowKit
theorem rd_ByteS {w : World} {B : Nat} {A : Option Addr} {n c : Nat} {xs : List UInt8} (h : SlRd byteR w B (.slice A n c) xs) : n = xs.length ∧ Reads w B A (xs.map byteV) ∧ xs.length ≤ c ∧ c ≤ 9223372036854775807 := by
  obtain ⟨h1, h2, h3, h4, _⟩ := h.reads (by omega)
  rw [← map_flat] at h2
  exact ⟨h1, h2, h3, h4⟩
theorem of_rd_ByteS {w : World} {B : Nat} {A : Option Addr} {c : Nat} {xs : List UInt8} (h : Reads w B A (xs.map byteV)) (hc : xs.length ≤ c) (hc' : c ≤ 9223372036854775807) : SlRd byteR w B (.slice A xs.length c) xs :=
  SlRd.of_reads (by omega) (by rw [← map_flat]; exact h) hc hc' (fun _ _ => trivial)
theorem of_own_ByteS {w : World} {base : Nat} {A : Option Addr} {c : Nat} {xs : List UInt8} (h : w.ownsRow base 5 1 (.slice A xs.length c) xs.length (xs.map byteV)) : SlOwn byteR 5 w (fun g => (Value.slice A xs.length c).ownBlock = some g) (.slice A xs.length c) xs :=
  SlOwn.of_own (by omega) (by rw [← map_flat]; exact h) (fun _ _ => trivial)
theorem of_own_in_ByteS {w : World} {base : Nat} {A : Option Addr} {c : Nat} {xs : List UInt8} (h : w.ownsRow base 5 1 (.slice A xs.length c) xs.length (xs.map byteV)) : SlOwn byteR 5 w (InR base w.heap.size) (.slice A xs.length c) xs := (of_own_ByteS h).wide (own_inR h)
theorem sz_ByteS (xs : List UInt8) : szList byteR xs = xs.length := by
  have : (xs.map byteR.sz).sum = 0 := by induction xs <;> simp_all [byteR, Rep.flat]
  unfold szList; omega
theorem cnt_ByteS (xs : List UInt8) : cntList byteR xs = xs.length := by
  unfold cntList; induction xs <;> simp_all [byteR, Rep.flat] <;> omega
theorem cnt_bd_ByteS (xs : List UInt8) : cntList byteR xs ≤ 8 * szList byteR xs := by rw [cnt_ByteS, sz_ByteS]; omega
theorem mkl_ByteS (k : Nat) (xs : List UInt8) : (mkList byteR k xs).map byteV = markBytes k xs.length ∧ (mkList byteR k xs).length = xs.length := by
  induction xs generalizing k with
  | nil => exact ⟨rfl, rfl⟩
  | cons x xs ih =>
    obtain ⟨h1, h2⟩ := ih (k + 1)
    have e : mkList byteR k (x :: xs) = byteR.mark k x :: mkList byteR (k + 1) xs := rfl
    rw [e]
    refine ⟨?_, by simp [h2]⟩
    rw [List.map_cons, h1]
    simp only [markBytes, List.length_cons, List.range_succ_eq_map, List.map_cons, List.map_map]
    refine List.cons_eq_cons.2 ⟨?_, List.map_congr_left fun i _ => ?_⟩
    · simp [byteR, Rep.flat, byteV, UInt8.toNat_ofNat']
    · simp only [Function.comp, show k + 1 + i = k + Nat.succ i by omega]
end Go.Proofs.YtohfnpohmieknaaDoor

/- Contracts of the helpers on []int (printed by wip/gen/gen2.py). -/
import Derived.Test.YtoijmnnjcoogkaaDoorIntS
import Derived.Test.YtoijmnnjcoogkaaDoorRep
set_option linter.unusedSimpArgs false
set_option linter.unusedVariables false
set_option maxRecDepth 20000
namespace Go.Proofs.YtoijmnnjcoogkaaDoor
open Go.RowKit
theorem rd_IntS {w : World} {B : Nat} {A : Option Addr} {n c : Nat} {xs : List Int} (h : SlRd intR w B (.slice A n c) xs) : n = xs.length ∧ Reads w B A (xs.map intV) ∧ xs.length ≤ c ∧ c ≤ 9223372036854775807 := by
  obtain ⟨h1, h2, h3, h4, _⟩ := h.reads (by omega)
  rw [← map_flat] at h2
  exact ⟨h1, h2, h3, h4⟩
theorem of_rd_IntS {w : World} {B : Nat} {A : Option Addr} {c : Nat} {xs : List Int} (h : Reads w B A (xs.map intV)) (hc : xs.length ≤ c) (hc' : c ≤ 9223372036854775807) : SlRd intR w B (.slice A xs.length c) xs :=
  SlRd.of_reads (by omega) (by rw [← map_flat]; exact h) hc hc' (fun _ _ => trivial)
theorem of_own_IntS {w : World} {base : Nat} {A : Option Addr} {c : Nat} {xs : List Int} (h : w.ownsRow base 3 1 (.slice A xs.length c) xs.length (xs.map intV)) : SlOwn intR 3 w (fun g => (Value.slice A xs.length c).ownBlock = some g) (.slice A xs.length c) xs :=
  SlOwn.of_own (by omega) (by rw [← map_flat]; exact h) (fun _ _ => trivial)
theorem of_own_in_IntS {w : World} {base : Nat} {A : Option Addr} {c : Nat} {xs : List Int} (h : w.ownsRow base 3 1 (.slice A xs.length c) xs.length (xs.map intV)) : SlOwn intR 3 w (InR base w.heap.size) (.slice A xs.length c) xs := (of_own_IntS h).wide (own_inR h)
theorem sz_IntS (xs : List Int) : szList intR xs = xs.length := by
  have : (xs.map intR.sz).sum = 0 := by induction xs <;> simp_all [intR, Rep.flat]
  unfold szList; omega
theorem cnt_IntS (xs : List Int) : cntList intR xs = xs.length := by
  unfold cntList; induction xs <;> simp_all [intR, Rep.flat] <;> omega
theorem cnt_bd_IntS (xs : List Int) : cntList intR xs ≤ 8 * szList intR xs := by rw [cnt_IntS, sz_IntS]; omega
theorem mkl_IntS (k : Nat) (xs : List Int) : (mkList intR k xs).map intV = markInts k xs.length ∧ (mkList intR k xs).length = xs.length := by
  induction xs generalizing k with
  | nil => exact ⟨rfl, rfl⟩
  | cons x xs ih =>
    obtain ⟨h1, h2⟩ := ih (k + 1)
    have e : mkList intR k (x :: xs) = intR.mark k x :: mkList intR (k + 1) xs := rfl
    rw [e]
    refine ⟨?_, by simp [h2]⟩
    rw [List.map_cons, h1]
    simp only [markInts, List.length_cons, List.range_succ_eq_map, List.map_cons, List.map_map]
    refine List.cons_eq_cons.2 ⟨?_, List.map_congr_left fun i _ => ?_⟩
    · simp [intR, Rep.flat, intV]
    · simp only [Function.comp, show k + 1 + i = k + Nat.succ i by omega]
end Go.Proofs.YtoijmnnjcoogkaaDoor

/- Contracts of the helpers on []string (printed by wip/gen/gen2.py). -/
import Derived.Test.YtohfnpohmieknaaDoorStringS
import Derived.Test.YtohfnpohmieknaaDoorRep
import Derived.Laws.IdiomStrings
set_option linter.unusedSimpArgs false
set_option linter.unusedVariables false
set_option maxRecDepth 20000
namespace Go.Proofs.YtohfnpohmieknaaDoor
open Go.RowKit
def digs (k : Nat) (acc : List UInt8) : List UInt8 := if k = 0 then acc else digs (k / 10) (UInt8.ofNat (48 + k % 10) :: acc)
termination_by k
decreasing_by omega
theorem digs_zero (acc : List UInt8) : digs 0 acc = acc := by rw [digs, if_pos rfl]
theorem digs_more {k : Nat} (h : 0 < k) (acc : List UInt8) : digs k acc = digs (k / 10) (UInt8.ofNat (48 + k % 10) :: acc) := by rw [digs, if_neg (by omega)]
theorem digs_len (k : Nat) : ∀ acc, (digs k acc).length ≤ acc.length + k := by
  induction k using Nat.strongRecOn with
  | _ k ih =>
    intro acc
    rcases Nat.eq_zero_or_pos k with rfl | h
    · rw [digs_zero]; omega
    · rw [digs_more h]
      have := ih (k / 10) (by omega) (UInt8.ofNat (48 + k % 10) :: acc)
      simp only [List.length_cons] at this
      omega
theorem digs_ge (k : Nat) : ∀ acc, acc.length ≤ (digs k acc).length := by
  induction k using Nat.strongRecOn with
  | _ k ih =>
    intro acc
    rcases Nat.eq_zero_or_pos k with rfl | h
    · rw [digs_zero]; omega
    · rw [digs_more h]
      have := ih (k / 10) (by omega) (UInt8.ofNat (48 + k % 10) :: acc)
      simp only [List.length_cons] at this
      omega
/-- The text of the mark k. -/
def markT (k : Nat) : ByteArray := ⟨(109 :: (if k = 0 then [48] else digs k [])).toArray⟩
theorem markT_size (k : Nat) : (markT k).size ≤ k + 2 := by
  have h := digs_len k []
  unfold markT
  rw [ByteArray.size]
  simp only [List.size_toArray, List.length_cons]
  split
  · simp
  · simp only [List.length_nil] at h; omega
def strR : Rep ByteArray := Rep.flat 1 (fun x => [strV x]) (fun _ => rfl) (fun x => x.size ≤ 9223372036854775807) 1 (fun k _ => markT k) (fun x => x.size)
theorem rd_StringS {w : World} {B : Nat} {A : Option Addr} {n c : Nat} {xs : List ByteArray} (h : SlRd strR w B (.slice A n c) xs) : n = xs.length ∧ Reads w B A (xs.map strV) ∧ xs.length ≤ c ∧ c ≤ 9223372036854775807 ∧ ∀ s ∈ xs, s.size ≤ 9223372036854775807 := by
  obtain ⟨h1, h2, h3, h4, h5⟩ := h.reads (by omega)
  rw [← map_flat] at h2
  exact ⟨h1, h2, h3, h4, h5⟩
theorem of_rd_StringS {w : World} {B : Nat} {A : Option Addr} {c : Nat} {xs : List ByteArray} (h : Reads w B A (xs.map strV)) (hc : xs.length ≤ c) (hc' : c ≤ 9223372036854775807) (hs : ∀ s ∈ xs, s.size ≤ 9223372036854775807) : SlRd strR w B (.slice A xs.length c) xs :=
  SlRd.of_reads (by omega) (by rw [← map_flat]; exact h) hc hc' hs
theorem of_own_StringS {w : World} {base : Nat} {A : Option Addr} {c : Nat} {xs : List ByteArray} (h : w.ownsRow base 9 1 (.slice A xs.length c) xs.length (xs.map strV)) (hs : ∀ s ∈ xs, s.size ≤ 9223372036854775807) : SlOwn strR 9 w (fun g => (Value.slice A xs.length c).ownBlock = some g) (.slice A xs.length c) xs :=
  SlOwn.of_own (by omega) (by rw [← map_flat]; exact h) hs
theorem of_own_in_StringS {w : World} {base : Nat} {A : Option Addr} {c : Nat} {xs : List ByteArray} (h : w.ownsRow base 9 1 (.slice A xs.length c) xs.length (xs.map strV)) (hs : ∀ s ∈ xs, s.size ≤ 9223372036854775807) : SlOwn strR 9 w (InR base w.heap.size) (.slice A xs.length c) xs := (of_own_StringS h hs).wide (own_inR h)
theorem sz_StringS (xs : List ByteArray) : szList strR xs = xs.length + strSum xs := by
  have : (xs.map strR.sz).sum = strSum xs := by induction xs <;> simp_all [strR, Rep.flat, strSum]
  unfold szList; omega
theorem cnt_StringS (xs : List ByteArray) : cntList strR xs = xs.length := by
  unfold cntList; induction xs <;> simp_all [strR, Rep.flat] <;> omega
theorem cnt_bd_StringS (xs : List ByteArray) : cntList strR xs ≤ 8 * szList strR xs := by rw [cnt_StringS, sz_StringS]; omega
def markStrs (k n : Nat) : List Value := (List.range n).map fun i => strV (markT (k + i))
theorem markStrs_at (k n i : Nat) (h : i < n) : (markStrs k n)[i]? = some (strV (markT (k + i))) := by simp [markStrs, h]
theorem mkl_StringS (k : Nat) (xs : List ByteArray) : (mkList strR k xs).map strV = markStrs k xs.length ∧ (mkList strR k xs).length = xs.length ∧ ∀ s ∈ mkList strR k xs, s.size ≤ k + xs.length + 2 := by
  induction xs generalizing k with
  | nil => exact ⟨rfl, rfl, by simp [mkList]⟩
  | cons x xs ih =>
    obtain ⟨h1, h2, h3⟩ := ih (k + 1)
    have e : mkList strR k (x :: xs) = markT k :: mkList strR (k + 1) xs := rfl
    rw [e]
    refine ⟨?_, by simp [h2], ?_⟩
    · rw [List.map_cons, h1]
      simp only [markStrs, List.length_cons, List.range_succ_eq_map, List.map_cons, List.map_map]
      refine List.cons_eq_cons.2 ⟨rfl, List.map_congr_left fun i _ => ?_⟩
      simp only [Function.comp, show k + 1 + i = k + Nat.succ i by omega]
    · intro s hs
      simp only [List.length_cons]
      rcases List.mem_cons.1 hs with h | h
      · have := markT_size k; rw [h]; omega
      · have := h3 s h; omega
end Go.Proofs.YtohfnpohmieknaaDoor

/- Contracts of the helpers on []uint8 (printed by wip/gen/gen2.py). -/
import Derived.Test.YtlncnicpiadaaaaByteS
import Derived.Test.YtlncnicpiadaaaaRep
set_option linter.unusedSimpArgs false
set_option linter.unusedVariables false
set_option maxRecDepth 20000
namespace Go.Proofs.Ytlncnicpiadaaaa
open Go.RowKit
theorem rd_ByteS {w : World} {B : Nat} {A : Option Addr} {n c : Nat} {xs : List UInt8} (h : SlRd byteR w B (.slice A n c) xs) : n = xs.length ∧ Reads w B A (xs.map byteV) ∧ xs.length ≤ c ∧ c ≤ 9223372036854775807 := by
  obtain ⟨h1, h2, h3, h4, _⟩ := h.reads (by omega)
  rw [← map_flat] at h2
  exact ⟨h1, h2, h3, h4⟩
theorem of_rd_ByteS {w : World} {B : Nat} {A : Option Addr} {c : Nat} {xs : List UInt8} (h : Reads w B A (xs.map byteV)) (hc : xs.length ≤ c) (hc' : c ≤ 9223372036854775807) : SlRd byteR w B (.slice A xs.length c) xs :=
  SlRd.of_reads (by omega) (by rw [← map_flat]; exact h) hc hc' (fun _ _ => trivial)
theorem of_own_ByteS {w : World} {base : Nat} {A : Option Addr} {c : Nat} {xs : List UInt8} (h : w.ownsRow base 5 1 (.slice A xs.length c) xs.length (xs.map byteV)) : SlOwn byteR 5 w (fun g => (Value.slice A xs.length c).ownBlock = some g) (.slice A xs.length c) xs :=
  SlOwn.of_own (by omega) (by rw [← map_flat]; exact h) (fun _ _ => trivial)
theorem of_own_in_ByteS {w : World} {base : Nat} {A : Option Addr} {c : Nat} {xs : List UInt8} (h : w.ownsRow base 5 1 (.slice A xs.length c) xs.length (xs.map byteV)) : SlOwn byteR 5 w (InR base w.heap.size) (.slice A xs.length c) xs := (of_own_ByteS h).wide (own_inR h)
theorem sz_ByteS (xs : List UInt8) : szList byteR xs = xs.length := by
  have : (xs.map byteR.sz).sum = 0 := by induction xs <;> simp_all [byteR, Rep.flat]
  unfold szList; omega
theorem cnt_ByteS (xs : List UInt8) : cntList byteR xs = xs.length := by
  unfold cntList; induction xs <;> simp_all [byteR, Rep.flat] <;> omega
theorem cnt_bd_ByteS (xs : List UInt8) : cntList byteR xs ≤ 8 * szList byteR xs := by rw [cnt_ByteS, sz_ByteS]; omega
theorem mkl_ByteS (k : Nat) (xs : List UInt8) : (mkList byteR k xs).map byteV = markBytes k xs.length ∧ (mkList byteR k xs).length = xs.length := by
  induction xs generalizing k with
  | nil => exact ⟨rfl, rfl⟩
  | cons x xs ih =>
    obtain ⟨h1, h2⟩ := ih (k + 1)
    have e : mkList byteR k (x :: xs) = byteR.mark k x :: mkList byteR (k + 1) xs := rfl
    rw [e]
    refine ⟨?_, by simp [h2]⟩
    rw [List.map_cons, h1]
    simp only [markBytes, List.length_cons, List.range_succ_eq_map, List.map_cons, List.map_map]
    refine List.cons_eq_cons.2 ⟨?_, List.map_congr_left fun i _ => ?_⟩
    · simp [byteR, Rep.flat, byteV, UInt8.toNat_ofNat']
    · simp only [Function.comp, show k + 1 + i = k + Nat.succ i by omega]
theorem sz2_ByteS (v : Value) (xs : List UInt8) (left : Int) (w : World) (h : SlRd byteR w w.heap.size v xs) (h1 : -1 ≤ left) (h2 : left ≤ 1048576) :
    Calls Try.prog 54 #[v, .int .i64 left] w fun e w' => e = .returned (.int .i64 (leftOf left (szList byteR xs))) ∧ Below w.heap.size w w' := by
  obtain ⟨A, c, rfl⟩ := h.form
  obtain ⟨_, q1, q2, q3⟩ := rd_ByteS h
  rw [sz_ByteS]
  exact (laws_szByteS A xs.length c left w (by omega) h1 h2).mono fun _ _ ⟨a, b⟩ => ⟨a, b ▸ Below.refl _ _⟩
theorem to2_ByteS (v : Value) (xs : List UInt8) (w : World) (h : SlRd byteR w w.heap.size v xs) (hm : szList byteR xs ≤ 1048576) :
    Calls Try.prog 58 #[v] w fun e w' => ∃ v', e = .returned v' ∧ SlOwn byteR 5 w' (InR w.heap.size w'.heap.size) v' xs ∧ Below w.heap.size w w' := by
  obtain ⟨A, c, rfl⟩ := h.form
  obtain ⟨_, q1, q2, q3⟩ := rd_ByteS h
  rw [sz_ByteS] at hm
  exact (laws_toByteS A c xs w q1 hm).mono fun _ _ ⟨A1, c1, a, b, d⟩ => ⟨_, a, of_own_in_ByteS b, d⟩
theorem eq2_ByteS (v v' : Value) (xs ys : List UInt8) (w : World) (h : SlRd byteR w w.heap.size v xs) (h' : SlRd byteR w w.heap.size v' ys) (hm : szList byteR xs ≤ 140737488351232) (hm' : szList byteR ys ≤ 140737488351232) :
    Calls Try.prog 12 #[v, v'] w fun e w' => e = .returned (.bool (decide (xs = ys))) ∧ Below w.heap.size w w' := by
  obtain ⟨A, c, rfl⟩ := h.form
  obtain ⟨A', c', rfl⟩ := h'.form
  obtain ⟨_, q1, q2, q3⟩ := rd_ByteS h
  obtain ⟨_, q1', q2', q3'⟩ := rd_ByteS h'
  rw [sz_ByteS] at hm hm'
  exact laws_eqByteS_b A A' c c' xs ys w q1 q1' hm hm'
set_option maxHeartbeats 800000 in
theorem mark2_ByteS (v : Value) (xs : List UInt8) (S : Nat → Prop) (k : Nat) (w : World) (h : SlOwn byteR 5 w S v xs) (hm : xs.length ≤ 2097152) (hk : k ≤ 536870912) :
    Calls Try.prog 17 #[v, .int .i64 k] w fun e w' => e = .returned (.int .i64 ((k + cntList byteR xs : Nat) : Int)) ∧ SlOwn byteR 5 w' S v (mkList byteR k xs) ∧ Out S w w' := by
  obtain ⟨A, c, rfl⟩ := h.form
  obtain ⟨_, q1, q2, q3, _⟩ := h.rows
  rw [cnt_ByteS]
  have hL := (mkl_ByteS k xs).2
  have HM : Hid (∀ (w' : World) (css : List (List Value)), Rows w' S 5 1 A css → css = (markBytes k xs.length).map (fun u => [u]) → SlOwn byteR 5 w' S (.slice A xs.length c) (mkList byteR k xs)) := Lib.hid (by
    intro w' css h1 h2
    rw [← hL]
    refine SlOwn.of_rows (?_ : Rows w' S 5 1 A _) (by omega) q3 (fun _ _ => trivial)
    rw [h2, ← (mkl_ByteS k xs).1, List.map_map] at h1
    exact h1)
  have hq : (xs.map fun x => [byteV x]).length = xs.length := by simp
  have hq1 : ∀ cs ∈ (xs.map fun x => [byteV x]), cs.length = 1 := by intro cs hcs; obtain ⟨_, _, rfl⟩ := List.mem_map.1 hcs; rfl
  generalize (xs.map fun x => [byteV x]) = css0 at q1 hq hq1
  generalize hn : xs.length = n at *
  clear hL h hn
  go_enter Try.func17, Try.ntmps17
  go_wp2
  go_loopw [1, 5] (fun kk i wr => ∃ (j : Nat) (css : List (List Value)), j ≤ n ∧ i = .int .i64 j ∧ kk = .int .i64 ((k + j : Nat) : Int) ∧ Rows wr S 5 1 A css ∧ Hid (css.length = n) ∧ (∀ cs ∈ css, cs.length = 1) ∧ Hid (css.take j = ((markBytes k n).map (fun u => [u])).take j) ∧ Out S w wr) (fun _ i _ => n - (intOf i).toNat)
  case atStart => exact ⟨0, css0, Nat.zero_le _, rfl, rfl, q1, hq, hq1, rfl, Out.refl _ _⟩
  case round =>
    obtain ⟨j, css, hj, rfl, rfl, hrw, hcl, hc1, htk, ho⟩ := hrel
    by_cases hlt : j < n
    · have hjl : j < css.length := by rw [hcl.out]; exact hlt
      have hje := List.getElem?_eq_getElem hjl
      have hone := hc1 _ (List.getElem_mem hjl)
      generalize css[j]'hjl = cs at hje hone
      obtain ⟨c0, rfl⟩ : ∃ c0, cs = [c0] := by
        match cs, hone with
        | [c0], _ => exact ⟨c0, rfl⟩
      obtain ⟨g, off, rfl, hSg, hgl, hcell⟩ := hrw.at_ hje
      obtain ⟨hd0, he0⟩ := hcell 0 c0 rfl
      rw [show off + (j * 1 + 0) = off + j by omega] at hd0 he0
      have R := Lib.hid (hrw.setC hc1 hje (i := 0) (by omega) (.int .u8 (((k + j) % 256 : Nat) : Int)))
      have HJ := Lib.hid hje
      clear hje hcell hone
      go_wp2
      go_roundw
      case rel =>
        have R' := R.out
        rw [show off + (j * 1 + 0) = off + j by omega] at R'
        refine ⟨j + 1, css.set j [.int .u8 (((k + j) % 256 : Nat) : Int)], by omega, by go_num, by go_num, by simpa using R', by rw [List.length_set]; exact hcl, fun cs hcs => ?_, ?_, ho.setCell (p := ⟨g, off + j, none⟩) hSg _⟩
        · rcases List.mem_or_eq_of_mem_set hcs with h | h
          · exact hc1 cs h
          · rw [h]; rfl
        · refine Lib.hid ?_
          have h1 : (css.set j [.int .u8 (((k + j) % 256 : Nat) : Int)]).take (j + 1) = css.take j ++ [[.int .u8 (((k + j) % 256 : Nat) : Int)]] := by
            rw [List.take_succ_eq_append_getElem (by rw [List.length_set]; exact hjl), List.take_set_of_le (by omega), List.getElem_set_self]
          rw [h1, htk.out, take_snoc (u := [.int .u8 (((k + j) % 256 : Nat) : Int)]) (by rw [List.getElem?_map, markBytes_at k n j hlt]; rfl)]
      case measure => simp [intOf]; omega
    · obtain rfl : j = n := by omega
      have h2 := htk.out
      rw [List.take_of_length_le (by rw [hcl.out]; omega), List.take_of_length_le (by simp [markBytes])] at h2
      have H2 := Lib.hid h2
      clear h2 htk hcl
      go_wp2
      go_ret
      exact ⟨rfl, HM.out _ _ hrw H2.out, ho⟩
theorem held2_ByteS (v : Value) (xs : List UInt8) (k : Nat) (w : World) (h : SlRd byteR w w.heap.size v (mkList byteR k xs)) (hm : xs.length ≤ 2097152) (hk : k ≤ 536870912) :
    Calls Try.prog 18 #[v, .int .i64 k] w fun e w' => e = .returned (.int .i64 ((k + cntList byteR xs : Nat) : Int)) ∧ Below w.heap.size w w' := by
  obtain ⟨A, c, rfl⟩ := h.form
  obtain ⟨_, q1, q2, q3⟩ := rd_ByteS h
  rw [(mkl_ByteS k xs).1] at q1
  rw [cnt_ByteS, (mkl_ByteS k xs).2]
  exact laws_heldByteS A c k xs.length w q1 hm (by omega)
end Go.Proofs.Ytlncnicpiadaaaa

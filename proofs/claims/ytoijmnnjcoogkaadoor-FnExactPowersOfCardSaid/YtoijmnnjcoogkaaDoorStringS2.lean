/- Contracts of the helpers on []string (printed by wip/gen/gen2.py). -/
import Derived.Test.YtoijmnnjcoogkaaDoorStringS
import Derived.Test.YtoijmnnjcoogkaaDoorRep
import Derived.Laws.IdiomStrings
set_option linter.unusedSimpArgs false
set_option linter.unusedVariables false
set_option maxRecDepth 20000
namespace Go.Proofs.YtoijmnnjcoogkaaDoor
open Go.RowKit
def digs (k : Nat) (acc : List UInt8) : List UInt8 := if k = 0 then acc else digs (k / 10) (UInt8.ofNat (48 + k % 10) :: acc)
termination_by k
decreasing_by omega
theorem digs_zero (acc : List UInt8) : digs 0 acc = acc := by rw [digs, if_pos rfl]
theorem digs_more {k : Nat} (h : 0 < k) (acc : List UInt8) : digs k acc = digs (k / 10) (UInt8.ofNat (48 + k % 10) :: acc) := by rw [digs, if_neg (by omega)]
theorem digs_len (k : Nat) : ∀ acc, (digs k acc).length ≤ acc.length + k := by
  induction k using Nat.strongRecOn with
  | _ k ih =>
    intro acc
    rcases Nat.eq_zero_or_pos k with rfl | h
    · rw [digs_zero]; omega
    · rw [digs_more h]
      have := ih (k / 10) (by omega) (UInt8.ofNat (48 + k % 10) :: acc)
      simp only [List.length_cons] at this
      omega
theorem digs_ge (k : Nat) : ∀ acc, acc.length ≤ (digs k acc).length := by
  induction k using Nat.strongRecOn with
  | _ k ih =>
    intro acc
    rcases Nat.eq_zero_or_pos k with rfl | h
    · rw [digs_zero]; omega
    · rw [digs_more h]
      have := ih (k / 10) (by omega) (UInt8.ofNat (48 + k % 10) :: acc)
      simp only [List.length_cons] at this
      omega
/-- The text of the mark k. -/
def markT (k : Nat) : ByteArray := ⟨(109 :: (if k = 0 then [48] else digs k [])).toArray⟩
theorem markT_size (k : Nat) : (markT k).size ≤ k + 2 := by
  have h := digs_len k []
  unfold markT
  rw [ByteArray.size]
  simp only [List.size_toArray, List.length_cons]
  split
  · simp
  · simp only [List.length_nil] at h; omega
def strR : Rep ByteArray := Rep.flat 1 (fun x => [strV x]) (fun _ => rfl) (fun x => x.size ≤ 9223372036854775807) 1 (fun k _ => markT k) (fun x => x.size)
theorem rd_StringS {w : World} {B : Nat} {A : Option Addr} {n c : Nat} {xs : List ByteArray} (h : SlRd strR w B (.slice A n c) xs) : n = xs.length ∧ Reads w B A (xs.map strV) ∧ xs.length ≤ c ∧ c ≤ 9223372036854775807 ∧ ∀ s ∈ xs, s.size ≤ 9223372036854775807 := by
  obtain ⟨h1, h2, h3, h4, h5⟩ := h.reads (by omega)
  rw [← map_flat] at h2
  exact ⟨h1, h2, h3, h4, h5⟩
theorem of_rd_StringS {w : World} {B : Nat} {A : Option Addr} {c : Nat} {xs : List ByteArray} (h : Reads w B A (xs.map strV)) (hc : xs.length ≤ c) (hc' : c ≤ 9223372036854775807) (hs : ∀ s ∈ xs, s.size ≤ 9223372036854775807) : SlRd strR w B (.slice A xs.length c) xs :=
  SlRd.of_reads (by omega) (by rw [← map_flat]; exact h) hc hc' hs
theorem of_own_StringS {w : World} {base : Nat} {A : Option Addr} {c : Nat} {xs : List ByteArray} (h : w.ownsRow base 9 1 (.slice A xs.length c) xs.length (xs.map strV)) (hs : ∀ s ∈ xs, s.size ≤ 9223372036854775807) : SlOwn strR 9 w (fun g => (Value.slice A xs.length c).ownBlock = some g) (.slice A xs.length c) xs :=
  SlOwn.of_own (by omega) (by rw [← map_flat]; exact h) hs
theorem of_own_in_StringS {w : World} {base : Nat} {A : Option Addr} {c : Nat} {xs : List ByteArray} (h : w.ownsRow base 9 1 (.slice A xs.length c) xs.length (xs.map strV)) (hs : ∀ s ∈ xs, s.size ≤ 9223372036854775807) : SlOwn strR 9 w (InR base w.heap.size) (.slice A xs.length c) xs := (of_own_StringS h hs).wide (own_inR h)
theorem sz_StringS (xs : List ByteArray) : szList strR xs = xs.length + strSum xs := by
  have : (xs.map strR.sz).sum = strSum xs := by induction xs <;> simp_all [strR, Rep.flat, strSum]
  unfold szList; omega
theorem cnt_StringS (xs : List ByteArray) : cntList strR xs = xs.length := by
  unfold cntList; induction xs <;> simp_all [strR, Rep.flat] <;> omega
theorem cnt_bd_StringS (xs : List ByteArray) : cntList strR xs ≤ 8 * szList strR xs := by rw [cnt_StringS, sz_StringS]; omega
def markStrs (k n : Nat) : List Value := (List.range n).map fun i => strV (markT (k + i))
theorem markStrs_at (k n i : Nat) (h : i < n) : (markStrs k n)[i]? = some (strV (markT (k + i))) := by simp [markStrs, h]
theorem mkl_StringS (k : Nat) (xs : List ByteArray) : (mkList strR k xs).map strV = markStrs k xs.length ∧ (mkList strR k xs).length = xs.length ∧ ∀ s ∈ mkList strR k xs, s.size ≤ k + xs.length + 2 := by
  induction xs generalizing k with
  | nil => exact ⟨rfl, rfl, by simp [mkList]⟩
  | cons x xs ih =>
    obtain ⟨h1, h2, h3⟩ := ih (k + 1)
    have e : mkList strR k (x :: xs) = markT k :: mkList strR (k + 1) xs := rfl
    rw [e]
    refine ⟨?_, by simp [h2], ?_⟩
    · rw [List.map_cons, h1]
      simp only [markStrs, List.length_cons, List.range_succ_eq_map, List.map_cons, List.map_map]
      refine List.cons_eq_cons.2 ⟨rfl, List.map_congr_left fun i _ => ?_⟩
      simp only [Function.comp, show k + 1 + i = k + Nat.succ i by omega]
    · intro s hs
      simp only [List.length_cons]
      rcases List.mem_cons.1 hs with h | h
      · have := markT_size k; rw [h]; omega
      · have := h3 s h; omega
theorem sz2_StringS (v : Value) (xs : List ByteArray) (left : Int) (w : World) (h : SlRd strR w w.heap.size v xs) (h1 : -1 ≤ left) (h2 : left ≤ 1048576) :
    Calls Tryd.prog 50 #[v, .int .i64 left] w fun e w' => e = .returned (.int .i64 (leftOf left (szList strR xs))) ∧ Below w.heap.size w w' := by
  obtain ⟨A, c, rfl⟩ := h.form
  obtain ⟨_, q1, q2, q3, q4⟩ := rd_StringS h
  rw [sz_StringS]
  exact (laws_szStringS A c xs left w q1 (by omega) q4 h1 h2).mono fun _ _ ⟨a, b⟩ => ⟨a, b ▸ Below.refl _ _⟩
theorem to2_StringS (v : Value) (xs : List ByteArray) (w : World) (h : SlRd strR w w.heap.size v xs) (hm : szList strR xs ≤ 1048576) :
    Calls Tryd.prog 57 #[v] w fun e w' => ∃ v', e = .returned v' ∧ SlOwn strR 9 w' (InR w.heap.size w'.heap.size) v' xs ∧ Below w.heap.size w w' := by
  obtain ⟨A, c, rfl⟩ := h.form
  obtain ⟨_, q1, q2, q3, q4⟩ := rd_StringS h
  rw [sz_StringS] at hm
  exact (laws_toStringS A c xs w q1 (by omega)).mono fun _ _ ⟨A1, c1, a, b, d⟩ => ⟨_, a, of_own_in_StringS b q4, d⟩
theorem eq2_StringS (v v' : Value) (xs ys : List ByteArray) (w : World) (h : SlRd strR w w.heap.size v xs) (h' : SlRd strR w w.heap.size v' ys) (hm : szList strR xs ≤ 140737488351232) (hm' : szList strR ys ≤ 140737488351232) :
    Calls Tryd.prog 65 #[v, v'] w fun e w' => e = .returned (.bool (decide (xs = ys))) ∧ Below w.heap.size w w' := by
  obtain ⟨A, c, rfl⟩ := h.form
  obtain ⟨A', c', rfl⟩ := h'.form
  obtain ⟨_, q1, q2, q3, _⟩ := rd_StringS h
  obtain ⟨_, q1', q2', q3', _⟩ := rd_StringS h'
  rw [sz_StringS] at hm hm'
  exact laws_eqStringS_b A A' c c' xs ys w q1 q1' (by omega) (by omega)
set_option maxHeartbeats 800000 in
theorem laws_markText (K : Nat) (w : World) (hK : 0 < K) (hK2 : K ≤ 1073741824) :
    Calls Tryd.prog 30 #[.int .i64 K] w fun e w' => e = .returned (.string (markT K)) ∧ Below w.heap.size w w' := by
  have hfin : ∀ es : List UInt8, es = digs K [] → (⟨(109 :: es).toArray⟩ : ByteArray) = markT K := by
    intro es h
    unfold markT
    rw [if_neg (by omega), h]
  have HF := Lib.hid hfin
  clear hfin
  go_enter Tryd.func30, Tryd.ntmps30
  go_wp2
  go_loopw [0, 3] (fun t o wr => ∃ (k : Nat) (es : List UInt8), t = .int .i64 k ∧ o = .string ⟨es.toArray⟩ ∧ k ≤ 1073741824 ∧ Hid (digs k es = digs K []) ∧ Below w.heap.size w wr) (fun t _ _ => (intOf t).toNat)
  case atStart => exact ⟨K, [], rfl, rfl, hK2, rfl, Below.refl _ _⟩
  case round =>
    obtain ⟨k, es, rfl, rfl, hk2, he, hb⟩ := hrel
    have hzr := hb.size
    by_cases hlt : 0 < k
    · have HD := Lib.hid (digs_more hlt es)
      have hle := digs_ge k es
      have hle2 := digs_len K []
      rw [he.out] at hle
      simp only [List.length_nil] at hle2
      have hel : es.length ≤ 1073741824 := by omega
      clear hle hle2
      have HC : (convert 81 9 (.slice (some ⟨wr.heap.size, 0, none⟩) 1 1)).run Tryd.prog (wr.alloc (.cells #[.int .u8 (48 + (k : Int) % 10)] 5)) = .ok (.string ⟨#[UInt8.ofNat (48 + k % 10)]⟩) (wr.alloc (.cells #[.int .u8 (48 + (k : Int) % 10)] 5)) :=
        run_convert_bytes_back (P := Tryd.prog) (wr.alloc (.cells #[.int .u8 (48 + (k : Int) % 10)] 5)) 81 9 5 ⟨wr.heap.size, 0, none⟩ 1 [UInt8.ofNat (48 + k % 10)] Tryd.underlying81 Tryd.underlying5 Tryd.underlying9 (by
          intro j hj
          obtain rfl : j = 0 := by simpa using hj
          rw [addr_add_none]
          have h1 := (Blk.new wr 5 #[.int .u8 (48 + (k : Int) % 10)]).cell 0
          rw [Nat.zero_add, h1]
          simp
          omega)
      go_wp2
      go_roundw
      case rel => exact ⟨k / 10, UInt8.ofNat (48 + k % 10) :: es, by go_num, by first | rfl | (rw [show (48 : UInt8) + UInt8.ofNat (k % 10) = UInt8.ofNat (48 + k % 10) by simp]; rfl), by omega, by rw [← HD.out]; exact he, by (repeat (first | (with_reducible exact Below.refl _ _) | (with_reducible assumption) | ((with_reducible refine Below.setCell ?_ ?_ _); rotate_left; focus (first | omega | (simp; done) | (simp; omega))) | ((with_reducible refine Below.alloc ?_ ?_ _); rotate_left; focus (first | omega | (simp; done) | (simp; omega))) | (with_reducible refine Below.drew ?_) | (with_reducible refine below_drewN ?_ _) | (refine Below.trans ?_ (Below.mono (by with_reducible assumption) (by (first | omega | (simp; done) | (simp; omega)))))))⟩
      case measure => simp [intOf]; omega
    · obtain rfl : k = 0 := by omega
      have HE := Lib.hid (digs_zero es)
      have hle := digs_ge 0 es
      have hle2 := digs_len K []
      rw [he.out] at hle
      simp only [List.length_nil] at hle2
      have hel : es.length ≤ 1073741824 := by omega
      clear hle hle2
      go_wp2
      go_ret
      exact ⟨by rw [← HF.out es (by rw [← he.out, HE.out])]; rfl, hb⟩
set_option maxHeartbeats 800000 in
theorem mark2_StringS (v : Value) (xs : List ByteArray) (S : Nat → Prop) (k : Nat) (w : World) (h : SlOwn strR 9 w S v xs) (hm : xs.length ≤ 2097152) (hS : ∀ g, S g → g < w.heap.size) (h0 : 0 < k) (hk : k ≤ 536870912) :
    Calls Tryd.prog 49 #[v, .int .i64 k] w fun e w' => e = .returned (.int .i64 ((k + cntList strR xs : Nat) : Int)) ∧ SlOwn strR 9 w' S v (mkList strR k xs) ∧ Out S w w' := by
  obtain ⟨A, c, rfl⟩ := h.form
  obtain ⟨_, q1, q2, q3, _⟩ := h.rows
  rw [cnt_StringS]
  have hL := (mkl_StringS k xs).2.1
  have hB := (mkl_StringS k xs).2.2
  have HM : Hid (∀ (w' : World) (css : List (List Value)), Rows w' S 9 1 A css → css = (markStrs k xs.length).map (fun u => [u]) → SlOwn strR 9 w' S (.slice A xs.length c) (mkList strR k xs)) := Lib.hid (by
    intro w' css h1 h2
    rw [← hL]
    refine SlOwn.of_rows (?_ : Rows w' S 9 1 A _) (by omega) q3 (fun s hs => by have := hB s hs; omega)
    rw [h2, ← (mkl_StringS k xs).1, List.map_map] at h1
    exact h1)
  have hq : (xs.map fun x => [strV x]).length = xs.length := by simp
  have hq1 : ∀ cs ∈ (xs.map fun x => [strV x]), cs.length = 1 := by intro cs hcs; obtain ⟨_, _, rfl⟩ := List.mem_map.1 hcs; rfl
  generalize (xs.map fun x => [strV x]) = css0 at q1 hq hq1
  generalize hn : xs.length = n at *
  clear hL h hn hB
  go_enter Tryd.func49, Tryd.ntmps49
  go_wp2
  go_loopw [1, 5] (fun kk i wr => ∃ (j : Nat) (css : List (List Value)), j ≤ n ∧ i = .int .i64 j ∧ kk = .int .i64 ((k + j : Nat) : Int) ∧ Rows wr S 9 1 A css ∧ Hid (css.length = n) ∧ (∀ cs ∈ css, cs.length = 1) ∧ Hid (css.take j = ((markStrs k n).map (fun u => [u])).take j) ∧ Out S w wr) (fun _ i _ => n - (intOf i).toNat)
  case atStart => exact ⟨0, css0, Nat.zero_le _, rfl, rfl, q1, hq, hq1, rfl, Out.refl _ _⟩
  case round =>
    obtain ⟨j, css, hj, rfl, rfl, hrw, hcl, hc1, htk, ho⟩ := hrel
    by_cases hlt : j < n
    · have hjl : j < css.length := by rw [hcl.out]; exact hlt
      have hje := List.getElem?_eq_getElem hjl
      have hone := hc1 _ (List.getElem_mem hjl)
      generalize css[j]'hjl = cs at hje hone
      obtain ⟨c0, rfl⟩ : ∃ c0, cs = [c0] := by
        match cs, hone with
        | [c0], _ => exact ⟨c0, rfl⟩
      have HJ := Lib.hid hje
      clear hje hone
      go_wp2_with fail
      refine (Calls.cast (by push_cast; rfl) (laws_markText (k + j) _ (by omega) (by omega))).mono ?_
      rintro e w1 ⟨rfl, hb1⟩
      have hrw1 := hrw.keep hb1
      obtain ⟨g, off, rfl, hSg, hgl, hcell⟩ := hrw1.at_ HJ.out
      obtain ⟨hd0, he0⟩ := hcell 0 c0 rfl
      rw [show off + (j * 1 + 0) = off + j by omega] at hd0 he0
      have R := Lib.hid (hrw1.setC hc1 HJ.out (i := 0) (by omega) (strV (markT (k + j))))
      clear hcell
      go_wp2
      go_roundw
      case rel =>
        have R' := R.out
        rw [show off + (j * 1 + 0) = off + j by omega] at R'
        refine ⟨j + 1, css.set j [strV (markT (k + j))], by omega, by go_num, by go_num, by simpa [strV] using R', by rw [List.length_set]; exact hcl, fun cs hcs => ?_, ?_, (ho.step hb1).setCell (p := ⟨g, off + j, none⟩) hSg _⟩
        · rcases List.mem_or_eq_of_mem_set hcs with h | h
          · exact hc1 cs h
          · rw [h]; rfl
        · refine Lib.hid ?_
          have h1 : (css.set j [strV (markT (k + j))]).take (j + 1) = css.take j ++ [[strV (markT (k + j))]] := by
            rw [List.take_succ_eq_append_getElem (by rw [List.length_set]; exact hjl), List.take_set_of_le (by omega), List.getElem_set_self]
          rw [h1, htk.out, take_snoc (u := [strV (markT (k + j))]) (by rw [List.getElem?_map, markStrs_at k n j hlt]; rfl)]
      case measure => simp [intOf]; omega
    · obtain rfl : j = n := by omega
      have h2 := htk.out
      rw [List.take_of_length_le (by rw [hcl.out]; omega), List.take_of_length_le (by simp [markStrs])] at h2
      have H2 := Lib.hid h2
      clear h2 htk hcl
      go_wp2
      go_ret
      exact ⟨rfl, HM.out _ _ hrw H2.out, ho⟩
end Go.Proofs.YtoijmnnjcoogkaaDoor

/- Records as bytes: encodeRecord, EncodeRecord, both sides. -/
import Derived.Test.YtndgaakfndokgaaPureRec
import Derived.Test.YtndgaakfndokgaaPkRec0
import Derived.Test.YtndgaakfndokgaaBytes
set_option linter.unusedSimpArgs false
set_option linter.unusedVariables false
set_option maxRecDepth 20000
namespace Go.Proofs.Ytndgaakfndokgaa
open Go.RowKit
theorem len_sz_Record {r : Record} {n : Nat} (h : RecordR.sz r ≤ n) : r.Nums.length ≤ n ∧ r.Texts.length ≤ n := by rw [sz_Record, sz_IntS, sz_StringS] at h; omega
theorem byteV_kind {k : Int} (h0 : 0 ≤ k) (h1 : k ≤ 99) : byteV (UInt8.ofNat k.toNat) = .int .u8 k := by rw [byteV_ofNat (by omega)]; congr 1; omega
set_option maxHeartbeats 400000 in
theorem impl_isRecord2 (cs : List Value) (r : Record) (w : World) (h : RecordR.Rd w w.heap.size cs r) (hm : RecordR.sz r ≤ 1048576) :
    Calls Try.prog 47 #[.agg cs.toArray] w fun e w' => e = .returned (.bool (recOk r)) ∧ Below w.heap.size w w' := by
  obtain ⟨v0, v1, rfl, q0, q1⟩ := rd_Record h
  obtain ⟨A0, c0, rfl⟩ := q0.form
  obtain ⟨A1, c1, rfl⟩ := q1.form
  have hl := len_sz_Record hm
  exact impl_isRecord r.Kind A0 c0 r.Nums A1 c1 r.Texts w (rd_IntS q0).2.1 (rd_StringS q1).2.1 (by omega) (by omega)
set_option maxHeartbeats 400000 in
theorem spec_RecordOk2 (cs : List Value) (r : Record) (w : World) (h : RecordR.Rd w w.heap.size cs r) (hm : RecordR.sz r ≤ 1048576) :
    Calls Try.prog 27 #[.agg cs.toArray] w fun e w' => e = .returned (.bool (recOk r)) ∧ Below w.heap.size w w' := by
  obtain ⟨v0, v1, rfl, q0, q1⟩ := rd_Record h
  obtain ⟨A0, c0, rfl⟩ := q0.form
  obtain ⟨A1, c1, rfl⟩ := q1.form
  have hl := len_sz_Record hm
  exact spec_RecordOk r.Kind A0 c0 r.Nums A1 c1 r.Texts w (rd_IntS q0).2.1 (rd_StringS q1).2.1 (by omega) (by omega)
set_option maxHeartbeats 3200000 in
theorem impl_encodeRecord (cs : List Value) (r : Record) (w : World) (h : RecordR.Rd w w.heap.size cs r) (hm : RecordR.sz r ≤ 1048576) :
    Calls Try.prog 30 #[.agg cs.toArray] w fun e w' => ∃ A c, e = .returned (.tuple #[.slice A (encB r).length c, .bool (encOk r)]) ∧ w'.ownsRow w.heap.size 5 1 (.slice A (encB r).length c) (encB r).length ((encB r).map byteV) ∧ Below w.heap.size w w' := by
  obtain ⟨i0, hi0, hI0, hI1, hI2⟩ := info_parts info_uint8
  obtain ⟨v0, v1, rfl, q0, q1⟩ := rd_Record h
  obtain ⟨A0, c0, rfl⟩ := q0.form
  obtain ⟨A1, c1, rfl⟩ := q1.form
  have hl := len_sz_Record hm
  have r0 := (rd_IntS q0).2.1
  have r1 := (rd_StringS q1).2.1
  cases hok : recOk r
  · rw [encB_no (encOk_bad hok), encOk_bad hok]
    have Hok := Lib.hid hok
    clear hok
    go_enter Try.func30, Try.ntmps30
    go_wp2_with fail
    refine (impl_isRecord2 _ r _ (RecordR.rd_keep h (by (repeat (first | (with_reducible exact Below.refl _ _) | (with_reducible assumption) | ((with_reducible refine Below.setCell ?_ ?_ _); rotate_left; focus (first | omega | (simp; done) | (simp; omega))) | ((with_reducible refine Below.alloc ?_ ?_ _); rotate_left; focus (first | omega | (simp; done) | (simp; omega))) | (with_reducible refine Below.drew ?_) | (with_reducible refine below_drewN ?_ _) | (refine Below.trans ?_ (Below.mono (by with_reducible assumption) (by (first | omega | (simp; done) | (simp; omega)))))))) (by first | omega | (simp; done) | (simp; omega))) hm).mono ?_
    rintro e w1 ⟨rfl, hb1⟩
    rw [Hok.out]
    go_wp2
    go_ret2
    exact ⟨none, 0, rfl, World.ownsRow_nil _ _ _ _, by (repeat (first | (with_reducible exact Below.refl _ _) | (with_reducible assumption) | ((with_reducible refine Below.setCell ?_ ?_ _); rotate_left; focus (first | omega | (simp; done) | (simp; omega))) | ((with_reducible refine Below.alloc ?_ ?_ _); rotate_left; focus (first | omega | (simp; done) | (simp; omega))) | (with_reducible refine Below.drew ?_) | (with_reducible refine below_drewN ?_ _) | (refine Below.trans ?_ (Below.mono (by with_reducible assumption) (by (first | omega | (simp; done) | (simp; omega)))))))⟩
  · obtain ⟨k0, k1, hn, ht, hnums, htexts⟩ := recOk_parts hok
    have Hok := Lib.hid hok
    have hh := encHead_le r hok
    have HN := Lib.hid hnums
    have HT := Lib.hid htexts
    have HKv := Lib.hid (byteV_kind k0 k1)
    clear hok hnums htexts
    go_enter Try.func30, Try.ntmps30
    go_wp2_with fail
    refine (impl_isRecord2 _ r _ (RecordR.rd_keep h (by (repeat (first | (with_reducible exact Below.refl _ _) | (with_reducible assumption) | ((with_reducible refine Below.setCell ?_ ?_ _); rotate_left; focus (first | omega | (simp; done) | (simp; omega))) | ((with_reducible refine Below.alloc ?_ ?_ _); rotate_left; focus (first | omega | (simp; done) | (simp; omega))) | (with_reducible refine Below.drew ?_) | (with_reducible refine below_drewN ?_ _) | (refine Below.trans ?_ (Below.mono (by with_reducible assumption) (by (first | omega | (simp; done) | (simp; omega)))))))) (by first | omega | (simp; done) | (simp; omega))) hm).mono ?_
    rintro e w1 ⟨rfl, hb1⟩
    rw [Hok.out]
    have hz1 := hb1.size; try simp at hz1
    have BK0 := (by (repeat (first | (with_reducible assumption) | ((with_reducible refine Blk.new' ?_); focus (simp; done)) | (with_reducible refine Blk.alloc ?_ _) | (with_reducible refine Blk.drew ?_) | (with_reducible refine Blk.drewN ?_ _) | ((with_reducible refine Blk.far ?_ ?_ _); rotate_left; focus (first | omega | (simp; done) | (simp; omega))) | (refine Blk.keep ?_ (by with_reducible assumption)) | (refine Blk.below ?_ (by with_reducible assumption) (by (first | omega | (simp; done) | (simp; omega)))))) : Blk w1 w.heap.size 27 #[.int .i64 r.Kind, .slice A0 r.Nums.length c0, .slice A1 r.Texts.length c1]); have hc0 := BK0.cell; have hf0 := BK0.frozen
    have hl0 := BK0.lt
    have hK256 : r.Kind % 256 = r.Kind := by omega
    go_wp2_with fail
    have hd0 : ([UInt8.ofNat r.Kind.toNat].map byteV) = [.int .u8 r.Kind] := by simp only [List.map_cons, List.map_nil, HKv.out]
    refine (impl_putNum (w.heap.size + 1) (some ⟨w1.heap.size, 0, none⟩) 1 [UInt8.ofNat r.Kind.toNat] (r.Nums.length : Int) _ (by rw [hd0]; exact own_base (World.ownsRow_lit w1 #[.int .u8 r.Kind] 1 (Nat.le_refl _) (by simp [maxLen]) rfl) (by omega)) (by simp; omega) (by omega) (by omega) (by simp)).mono ?_
    rintro e w2 ⟨A2, c2, rfl, ho2, hb2⟩
    have hBw : Below w.heap.size w w2 := Below.trans (by (repeat (first | (with_reducible exact Below.refl _ _) | (with_reducible assumption) | ((with_reducible refine Below.setCell ?_ ?_ _); rotate_left; focus (first | omega | (simp; done) | (simp; omega))) | ((with_reducible refine Below.alloc ?_ ?_ _); rotate_left; focus (first | omega | (simp; done) | (simp; omega))) | (with_reducible refine Below.drew ?_) | (with_reducible refine below_drewN ?_ _) | (refine Below.trans ?_ (Below.mono (by with_reducible assumption) (by (first | omega | (simp; done) | (simp; omega)))))))) (hb2.mono (by omega))
    have BK2 : Blk w2 w.heap.size 27 #[.int .i64 r.Kind, .slice A0 r.Nums.length c0, .slice A1 r.Texts.length c1] := (BK0.alloc _).below hb2 (by omega)
    have hc2 := BK2.cell
    have hz2 := hb2.size
    clear hd0 hK256
    have HL : Hid ([UInt8.ofNat r.Kind.toNat] ++ numB (zig (r.Nums.length : Int)) = encHead r ++ numsB (r.Nums.take 0)) := Lib.hid (by simp [encHead, numsB])
    rw [HL.out] at ho2 ⊢
    obtain ⟨L0, hL0⟩ : ∃ L0, L0 = encHead r ++ numsB (r.Nums.take 0) := ⟨_, rfl⟩
    rw [← hL0] at ho2 ⊢
    have HL0 := Lib.hid hL0
    clear HL hL0
    generalize hNl : r.Nums.length = n at *
    have HNl := Lib.hid hNl
    generalize hTl : r.Texts.length = m at *
    have HTl := Lib.hid hTl
    clear hNl hTl
    have hlo0 : w.heap.size < w2.heap.size := BK2.lt
    clear hb1 hb2 BK0 hc0 hf0 hl0 hz1
    go_wp2
    clear hc2
    go_loopw [4, 23] (fun o i wr => ∃ (k : Nat) (L : List UInt8) (A3 : Option Addr) (c3 : Nat), k ≤ n ∧ i = .int .i64 k ∧ o = .slice A3 L.length c3 ∧ wr.ownsRow (w.heap.size + 1) 5 1 (.slice A3 L.length c3) L.length (L.map byteV) ∧ Below w.heap.size w wr ∧ Blk wr w.heap.size 27 #[.int .i64 r.Kind, .slice A0 n c0, .slice A1 m c1] ∧ Hid (L = encHead r ++ numsB (r.Nums.take k))) (fun _ i _ => n - (intOf i).toNat)
    case atStart => exact ⟨0, L0, some A2, c2, Nat.zero_le _, rfl, rfl, ho2, hBw, BK2, HL0⟩
    case round =>
      clear hBw BK2 ho2 HL0
      obtain ⟨k, L, A3, c3, hk, rfl, rfl, hown, hb, hbk, hL⟩ := hrel
      have hlen : L.length ≤ 300 := by
        have h1 := numsB_le (xs := r.Nums.take k) (fun x hx => HN.out x (List.mem_of_mem_take hx))
        rw [hL.out, List.length_append]
        rw [List.length_take] at h1
        omega
      by_cases hlt : k < n
      · have hlx : k < r.Nums.length := by rw [HNl.out]; exact hlt
        obtain ⟨b, off, rfl, hab, hcx⟩ := r0.at_ (by simpa using hlx) hb (Nat.le_refl _)
        rw [List.getElem_map] at hcx
        have hxr := HN.out _ (List.getElem_mem hlx)
        have HG := Lib.hid (numsB_snoc (List.getElem?_eq_getElem hlx))
        generalize r.Nums[k]'hlx = x at hcx hxr HG
        obtain ⟨hx1, hx2⟩ := hxr
        simp only [intV] at hcx
        have hltw := hbk.lt
        go_wp2_with fail
        refine (impl_putNum (w.heap.size + 1) A3 c3 L x _ hown (by omega) hx1 hx2 (by omega)).mono ?_
        rintro e w3 ⟨A4, c4, rfl, ho4, hb4⟩
        go_wp2
        go_roundw
        case rel => exact ⟨k + 1, L ++ numB (zig x), some A4, c4, by omega, by go_num, by rw [List.length_append], ho4, hb.trans (hb4.mono (by omega)), hbk.below hb4 (by omega), Lib.hid (by rw [HG.out, ← List.append_assoc, hL.out])⟩
        case measure => simp [intOf]; omega
      · obtain rfl : k = n := by omega
        have hc3 := hbk.cell
        have hltw := hbk.lt
        rw [List.take_of_length_le (by rw [HNl.out]; exact Nat.le_refl _)] at hL
        go_wp2_with fail
        refine (impl_putNum (w.heap.size + 1) A3 c3 L (m : Int) _ hown (by omega) (by omega) (by omega) (by omega)).mono ?_
        rintro e w4 ⟨A4, c4, rfl, ho4, hb4⟩
        have hBw : Below w.heap.size w w4 := hb.trans (hb4.mono (by omega))
        have BK4 := hbk.below hb4 (by omega)
        have hc4 := BK4.cell
        have hl4 := BK4.lt
        have hlen4 : (L ++ numB (zig (m : Int))).length ≤ 306 := by have := zigB_short (x := (m : Int)) (by omega) (by omega); rw [List.length_append]; omega
        have HL4 : Hid (L ++ numB (zig (m : Int)) = encHead r ++ numsB r.Nums ++ numB (zig (m : Int)) ++ textsB (r.Texts.take 0)) := Lib.hid (by rw [hL.out]; simp [textsB])
        generalize L ++ numB (zig (m : Int)) = L4 at *
        clear hc3 hb hb4 hbk hltw hown hL hlen
        go_wp2
        clear hc4
        go_loopw [4, 39] (fun o i wr => ∃ (q : Nat) (L : List UInt8) (A3 : Option Addr) (c3 : Nat), q ≤ m ∧ i = .int .i64 q ∧ o = .slice A3 L.length c3 ∧ wr.ownsRow (w.heap.size + 1) 5 1 (.slice A3 L.length c3) L.length (L.map byteV) ∧ Below w.heap.size w wr ∧ Blk wr w.heap.size 27 #[.int .i64 r.Kind, .slice A0 k c0, .slice A1 m c1] ∧ Hid (L = encHead r ++ numsB r.Nums ++ numB (zig (m : Int)) ++ textsB (r.Texts.take q))) (fun _ i _ => m - (intOf i).toNat)
        case atStart => exact ⟨0, L4, some A4, c4, Nat.zero_le _, rfl, rfl, ho4, hBw, BK4, HL4⟩
        case round =>
          clear hBw BK4 ho4 HL4 hlen4 hl4
          obtain ⟨q, L, A3, c3, hq, rfl, rfl, hown, hb, hbk, hL⟩ := hrel
          have hlen : L.length ≤ 13000 := by
            have h1 := numsB_le HN.out
            have h2 := textsB_le (ss := r.Texts.take q) (fun x hx => HT.out x (List.mem_of_mem_take hx))
            have h3 := zigB_short (x := (m : Int)) (by omega) (by omega)
            have h4 := HNl.out
            rw [hL.out, List.length_append, List.length_append, List.length_append]
            rw [List.length_take] at h2
            omega
          by_cases hlt : q < m
          · have hlx : q < r.Texts.length := by rw [HTl.out]; exact hlt
            obtain ⟨b, off, rfl, hab, hcx⟩ := r1.at_ (by simpa using hlx) hb (Nat.le_refl _)
            rw [List.getElem_map] at hcx
            have hxr := HT.out _ (List.getElem_mem hlx)
            have HG := Lib.hid (textsB_snoc (List.getElem?_eq_getElem hlx))
            generalize r.Texts[q]'hlx = x at hcx hxr HG
            simp only [strV] at hcx
            have hltw := hbk.lt
            have hn6 := zigB_short (x := (x.size : Int)) (by omega) (by omega)
            go_wp2_with fail
            refine (impl_putNum (w.heap.size + 1) A3 c3 L (x.size : Int) _ hown (by omega) (by omega) (by omega) (by omega)).mono ?_
            rintro e w3 ⟨A5, c5, rfl, ho5, hb5⟩
            have hz5 := hb5.size
            have hlen5 : (L ++ numB (zig (x.size : Int))).length ≤ 13006 := by rw [List.length_append]; omega
            have HL5 : Hid (L ++ numB (zig (x.size : Int)) ++ x.data.toList = encHead r ++ numsB r.Nums ++ numB (zig (m : Int)) ++ textsB (r.Texts.take (q + 1))) := Lib.hid (by rw [HG.out, hL.out]; simp only [textB, List.append_assoc])
            generalize L ++ numB (zig (x.size : Int)) = L5 at *
            clear hL hlen hn6
            go_wp2_with (at_builtin; go_loud (refine Lib.wpList_append_own_string w3 rfl _ _ 22 9 rfl (w.heap.size + 1) 5 i0 Try.underlying22 Try.underlying9 hi0 hI0 hI1 hI2 _ _ _ rfl ho5 x rfl ?c3 ?c4 ?c5 ?_; (case c3 => (simp only [maxLen]; omega)); (case c4 => omega); (case c5 => omega); intro v' wA hown1 hgrow hnil; obtain ⟨A6, c6, rfl⟩ := own_slice hown1))
            go_roundw
            case rel =>
              have hsz := hgrow.size
              have hxl : x.data.toList.length = x.size := rfl
              have hbA : Below (w.heap.size + 1) w3 wA := Below.grown (Below.refl _ _) hgrow (by omega) (fun g e => (ho5.lt _ e).1)
              refine ⟨q + 1, L5 ++ x.data.toList, A6, c6, by omega, by go_num, by rw [List.length_append, hxl], ?_, hb.trans ((hb5.trans hbA).mono (by omega)), (hbk.below hb5 (by omega)).below hbA (by omega), HL5⟩
              rw [List.length_append, hxl, List.map_append]
              exact hown1
            case measure => simp [intOf]; omega
          · obtain rfl : q = m := by omega
            have hL2 : Hid (L = encList r) := Lib.hid (by rw [hL.out, List.take_of_length_le (by rw [HTl.out]; exact Nat.le_refl _), encList, HTl.out])
            clear hL
            by_cases hbig : 4000 < L.length
            · have HR := Lib.hid (encOk_big (r := r) (by rw [← hL2.out]; exact hbig))
              have HR2 := Lib.hid (encB_no HR.out)
              go_wp2
              go_ret2
              exact ⟨none, 0, by rw [HR.out, HR2.out]; rfl, by rw [HR2.out]; exact World.ownsRow_nil _ _ _ _, hb⟩
            · have HR := Lib.hid (encOk_good Hok.out (by rw [← hL2.out]; omega))
              have HR2 := Lib.hid ((encB_yes HR.out).trans hL2.out.symm)
              go_wp2
              go_ret2
              exact ⟨A3, c3, by rw [HR.out, HR2.out]; rfl, by rw [HR2.out]; exact own_base hown (by omega), hb⟩
end Go.Proofs.Ytndgaakfndokgaa

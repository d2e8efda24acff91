/- spec.EncodeRecord. -/
import Derived.Test.YtndgaakfndokgaaEncode
import Derived.Test.YtndgaakfndokgaaConv
set_option linter.unusedSimpArgs false
set_option linter.unusedVariables false
set_option maxRecDepth 20000
namespace Go.Proofs.Ytndgaakfndokgaa
open Go.RowKit
set_option maxHeartbeats 6400000 in
theorem spec_EncodeRecord (cs : List Value) (r : Record) (w : World) (h : RecordR.Rd w w.heap.size cs r) (hm : RecordR.sz r ≤ 1048576) :
    Calls Try.prog 7 #[.agg cs.toArray] w fun e w' => ∃ A c, e = .returned (.tuple #[.slice A (encB r).length c, .bool (encOk r)]) ∧ w'.ownsRow w.heap.size 5 1 (.slice A (encB r).length c) (encB r).length ((encB r).map byteV) ∧ Below w.heap.size w w' := by
  obtain ⟨v0, v1, rfl, q0, q1⟩ := rd_Record h
  obtain ⟨A0, c0, rfl⟩ := q0.form
  obtain ⟨A1, c1, rfl⟩ := q1.form
  have hl := len_sz_Record hm
  have r0 := (rd_IntS q0).2.1
  have r1 := (rd_StringS q1).2.1
  cases hok : recOk r
  · rw [encB_no (encOk_bad hok), encOk_bad hok]
    have Hok := Lib.hid hok
    clear hok
    go_enter Try.func7, Try.ntmps7
    go_wp2_with fail
    refine (spec_RecordOk2 _ r _ (RecordR.rd_keep h (by (repeat (first | (with_reducible exact Below.refl _ _) | (with_reducible assumption) | ((with_reducible refine Below.setCell ?_ ?_ _); rotate_left; focus (first | omega | (simp; done) | (simp; omega))) | ((with_reducible refine Below.alloc ?_ ?_ _); rotate_left; focus (first | omega | (simp; done) | (simp; omega))) | (with_reducible refine Below.drew ?_) | (with_reducible refine below_drewN ?_ _) | (refine Below.trans ?_ (Below.mono (by with_reducible assumption) (by (first | omega | (simp; done) | (simp; omega)))))))) (by first | omega | (simp; done) | (simp; omega))) hm).mono ?_
    rintro e w1 ⟨rfl, hb1⟩
    rw [Hok.out]
    go_wp2
    go_ret2
    exact ⟨none, 0, rfl, World.ownsRow_nil _ _ _ _, by (repeat (first | (with_reducible exact Below.refl _ _) | (with_reducible assumption) | ((with_reducible refine Below.setCell ?_ ?_ _); rotate_left; focus (first | omega | (simp; done) | (simp; omega))) | ((with_reducible refine Below.alloc ?_ ?_ _); rotate_left; focus (first | omega | (simp; done) | (simp; omega))) | (with_reducible refine Below.drew ?_) | (with_reducible refine below_drewN ?_ _) | (refine Below.trans ?_ (Below.mono (by with_reducible assumption) (by (first | omega | (simp; done) | (simp; omega)))))))⟩
  · obtain ⟨k0, k1, hn, ht, hnums, htexts⟩ := recOk_parts hok
    have Hok := Lib.hid hok
    have hh := encHead_le r hok
    have HN := Lib.hid hnums
    have HT := Lib.hid htexts
    have HKv := Lib.hid (byteV_kind k0 k1)
    have HP : Hid (∀ (x : Int) (w' : World), -1099511627776 ≤ x → x ≤ 1099511627776 → Calls Try.prog 29 #[.int .i64 x] w' fun e w'' => ∃ A1 c1, e = .returned (.slice A1 (numB (zig x)).length c1) ∧ w''.ownsRow w'.heap.size 5 1 (.slice A1 (numB (zig x)).length c1) (numB (zig x)).length ((numB (zig x)).map byteV) ∧ Below w'.heap.size w' w'') := Lib.hid (by
      intro x w' h1 h2
      have h := spec_PutNum x w'
      rw [putB_in (withinB_iff.2 ⟨h1, h2⟩)] at h
      exact h)
    have HJ : Hid (∀ (w' : World) (g : Nat) (A : Option Addr) (c : Nat) (ds : List UInt8), Blk w' g 5 #[.int .u8 r.Kind] → Reads w' w'.heap.size A (ds.map byteV) → ds.length ≤ 1000 → Calls Try.prog 28 #[.slice (some ⟨g, 0, none⟩) 1 1, .slice A ds.length c] w' fun e w'' => ∃ A2 c2, e = .returned (.slice A2 (UInt8.ofNat r.Kind.toNat :: ds).length c2) ∧ w''.ownsRow w'.heap.size 5 1 (.slice A2 (UInt8.ofNat r.Kind.toNat :: ds).length c2) (UInt8.ofNat r.Kind.toNat :: ds).length ((UInt8.ofNat r.Kind.toNat :: ds).map byteV) ∧ Below w'.heap.size w' w'') := Lib.hid (by
      intro w' g A c ds hb hr hl
      have hx : ([UInt8.ofNat r.Kind.toNat].map byteV) = [.int .u8 r.Kind] := by simp only [List.map_cons, List.map_nil, HKv.out]
      exact spec_l01Join (some ⟨g, 0, none⟩) A 1 c [UInt8.ofNat r.Kind.toNat] ds w' (by rw [hx]; exact Reads.of_blk hb) hr (by simp) (by omega))
    clear hok hnums htexts
    go_enter Try.func7, Try.ntmps7
    go_wp2_with fail
    refine (spec_RecordOk2 _ r _ (RecordR.rd_keep h (by (repeat (first | (with_reducible exact Below.refl _ _) | (with_reducible assumption) | ((with_reducible refine Below.setCell ?_ ?_ _); rotate_left; focus (first | omega | (simp; done) | (simp; omega))) | ((with_reducible refine Below.alloc ?_ ?_ _); rotate_left; focus (first | omega | (simp; done) | (simp; omega))) | (with_reducible refine Below.drew ?_) | (with_reducible refine below_drewN ?_ _) | (refine Below.trans ?_ (Below.mono (by with_reducible assumption) (by (first | omega | (simp; done) | (simp; omega)))))))) (by first | omega | (simp; done) | (simp; omega))) hm).mono ?_
    rintro e w1 ⟨rfl, hb1⟩
    rw [Hok.out]
    have hz1 := hb1.size; try simp at hz1
    have BK0 := (by (repeat (first | (with_reducible assumption) | ((with_reducible refine Blk.new' ?_); focus (simp; done)) | (with_reducible refine Blk.alloc ?_ _) | (with_reducible refine Blk.drew ?_) | (with_reducible refine Blk.drewN ?_ _) | ((with_reducible refine Blk.far ?_ ?_ _); rotate_left; focus (first | omega | (simp; done) | (simp; omega))) | (refine Blk.keep ?_ (by with_reducible assumption)) | (refine Blk.below ?_ (by with_reducible assumption) (by (first | omega | (simp; done) | (simp; omega)))))) : Blk w1 w.heap.size 27 #[.int .i64 r.Kind, .slice A0 r.Nums.length c0, .slice A1 r.Texts.length c1]); have hc0 := BK0.cell; have hf0 := BK0.frozen
    have hl0 := BK0.lt
    have hK256 : IntKind.u8.wrap r.Kind = r.Kind := wraps_u8 r.Kind k0 (by omega)
    have hbw1 : Below w.heap.size w w1 := by (repeat (first | (with_reducible exact Below.refl _ _) | (with_reducible assumption) | ((with_reducible refine Below.setCell ?_ ?_ _); rotate_left; focus (first | omega | (simp; done) | (simp; omega))) | ((with_reducible refine Below.alloc ?_ ?_ _); rotate_left; focus (first | omega | (simp; done) | (simp; omega))) | (with_reducible refine Below.drew ?_) | (with_reducible refine below_drewN ?_ _) | (refine Below.trans ?_ (Below.mono (by with_reducible assumption) (by (first | omega | (simp; done) | (simp; omega)))))))
    have hn6 := zigB_short (x := (r.Nums.length : Int)) (by omega) (by omega)
    go_wp2
    go_region_held3 (fun w' => w'.cell? ⟨w.heap.size, 0, none⟩ = some (.int .i64 r.Kind) ∧ w'.cell? ⟨w.heap.size, 1, none⟩ = some (.slice A0 r.Nums.length c0))
      (refine ⟨Blk.cell (t := 27) (cs := #[.int .i64 r.Kind, .slice A0 r.Nums.length c0, .slice A1 r.Texts.length c1]) ?_ 0, Blk.cell (t := 27) (cs := #[.int .i64 r.Kind, .slice A0 r.Nums.length c0, .slice A1 r.Texts.length c1]) ?_ 1⟩ <;> (repeat (first | (with_reducible assumption) | ((with_reducible refine Blk.new' ?_); focus (simp; done)) | (with_reducible refine Blk.alloc ?_ _) | (with_reducible refine Blk.drew ?_) | (with_reducible refine Blk.drewN ?_ _) | ((with_reducible refine Blk.far ?_ ?_ _); rotate_left; focus (first | omega | (simp; done) | (simp; omega))) | (refine Blk.keep ?_ (by with_reducible assumption)) | (refine Blk.below ?_ (by with_reducible assumption) (by (first | omega | (simp; done) | (simp; omega)))))))
      (first
      | (go_at_call 29; (with_reducible refine (HP.out _ _ (by omega) (by omega)).mono ?_); rintro e w2 ⟨A2, c2, rfl, ho2, hb2⟩; have hz2 := hb2.size; try simp at hz2)
      | (go_at_call 28; (with_reducible refine (HJ.out _ _ _ _ (numB (zig (r.Nums.length : Int))) ?_ ?_ ?_).mono ?_); (focus (repeat (first | (with_reducible assumption) | ((with_reducible refine Blk.new' ?_); focus (simp; done)) | (with_reducible refine Blk.alloc ?_ _) | (with_reducible refine Blk.drew ?_) | (with_reducible refine Blk.drewN ?_ _) | ((with_reducible refine Blk.far ?_ ?_ _); rotate_left; focus (first | omega | (simp; done) | (simp; omega))) | (refine Blk.keep ?_ (by with_reducible assumption)) | (refine Blk.below ?_ (by with_reducible assumption) (by (first | omega | (simp; done) | (simp; omega))))))); (focus (first | exact Reads.of_own ho2 | exact Reads.of_own (ho2.alloc _))); (focus omega); rintro e w3 ⟨A3, c3, rfl, ho3, hb3⟩; have BK3 : Blk w3 w.heap.size 27 #[.int .i64 r.Kind, .slice A0 r.Nums.length c0, .slice A1 r.Texts.length c1] := (by (repeat (first | (with_reducible assumption) | ((with_reducible refine Blk.new' ?_); focus (simp; done)) | (with_reducible refine Blk.alloc ?_ _) | (with_reducible refine Blk.drew ?_) | (with_reducible refine Blk.drewN ?_ _) | ((with_reducible refine Blk.far ?_ ?_ _); rotate_left; focus (first | omega | (simp; done) | (simp; omega))) | (refine Blk.keep ?_ (by with_reducible assumption)) | (refine Blk.below ?_ (by with_reducible assumption) (by (first | omega | (simp; done) | (simp; omega)))))))))
    all_goals
      have hBw : Below w.heap.size w w3 := by (repeat (first | (with_reducible exact Below.refl _ _) | (with_reducible assumption) | ((with_reducible refine Below.setCell ?_ ?_ _); rotate_left; focus (first | omega | (simp; done) | (simp; omega))) | ((with_reducible refine Below.alloc ?_ ?_ _); rotate_left; focus (first | omega | (simp; done) | (simp; omega))) | (with_reducible refine Below.drew ?_) | (with_reducible refine below_drewN ?_ _) | (refine Below.trans ?_ (Below.mono (by with_reducible assumption) (by (first | omega | (simp; done) | (simp; omega)))))))
      replace ho3 := own_base (base' := w.heap.size + 1) ho3 (by first | omega | (simp; done) | (simp; omega))
      have hl3 := BK3.lt
      have HL0 : Hid (UInt8.ofNat r.Kind.toNat :: numB (zig (r.Nums.length : Int)) = encHead r ++ numsB (r.Nums.take 0)) := Lib.hid (by simp [encHead, numsB])
      clear hb1 hbw1 BK0 hc0 hf0 hl0 hz1 hK256 hn6
      generalize hNl : r.Nums.length = n at *
      have HNl := Lib.hid hNl
      generalize hTl : r.Texts.length = m at *
      have HTl := Lib.hid hTl
      clear hNl hTl
      go_wp2
      go_loopw [4, 5] (fun o i wr => ∃ (k : Nat) (L : List UInt8) (A4 : Option Addr) (c4 : Nat), k ≤ n ∧ i = .int .i64 k ∧ o = .slice A4 L.length c4 ∧ wr.ownsRow (w.heap.size + 1) 5 1 (.slice A4 L.length c4) L.length (L.map byteV) ∧ Below w.heap.size w wr ∧ Blk wr w.heap.size 27 #[.int .i64 r.Kind, .slice A0 n c0, .slice A1 m c1] ∧ Hid (L = encHead r ++ numsB (r.Nums.take k))) (fun _ i _ => n - (intOf i).toNat)
      case atStart => exact ⟨0, _, A3, c3, Nat.zero_le _, rfl, rfl, ho3, hBw, BK3, HL0⟩
      case round =>
        clear hBw BK3 ho3 HL0 hl3
        obtain ⟨k, L, A4, c4, hk, rfl, rfl, hown, hb, hbk, hL⟩ := hrel
        have hc4 := hbk.cell
        have hlen : L.length ≤ 300 := by
          have h1 := numsB_le (xs := r.Nums.take k) (fun x hx => HN.out x (List.mem_of_mem_take hx))
          rw [hL.out, List.length_append]
          rw [List.length_take] at h1
          omega
        have hltw := hbk.lt
        by_cases hlt : k < n
        · have hlx : k < r.Nums.length := by rw [HNl.out]; exact hlt
          obtain ⟨b, off, rfl, hab, hcx⟩ := r0.at_ (by simpa using hlx) hb (Nat.le_refl _)
          rw [List.getElem_map] at hcx
          have hxr := HN.out _ (List.getElem_mem hlx)
          have HG := Lib.hid (numsB_snoc (List.getElem?_eq_getElem hlx))
          generalize r.Nums[k]'hlx = x at hcx hxr HG
          obtain ⟨hx1, hx2⟩ := hxr
          simp only [intV] at hcx
          have hn6 := zigB_short hx1 hx2
          go_wp2_with fail
          refine (HP.out x _ hx1 hx2).mono ?_
          rintro e w4 ⟨A5, c5, rfl, ho5, hb5⟩
          have hz5 := hb5.size
          go_wp2_with fail
          refine (spec_l01Join _ _ _ _ L (numB (zig x)) _ (Reads.of_own (own_below hown hb5)) (Reads.of_own ho5) (by omega) (by omega)).mono ?_
          rintro e w6 ⟨A6, c6, rfl, ho6, hb6⟩
          have hz6 := hb6.size
          go_wp2
          go_roundw
          case rel => exact ⟨k + 1, L ++ numB (zig x), A6, c6, by omega, by go_num, by rw [List.length_append], own_base ho6 (by omega), by (repeat (first | (with_reducible exact Below.refl _ _) | (with_reducible assumption) | ((with_reducible refine Below.setCell ?_ ?_ _); rotate_left; focus (first | omega | (simp; done) | (simp; omega))) | ((with_reducible refine Below.alloc ?_ ?_ _); rotate_left; focus (first | omega | (simp; done) | (simp; omega))) | (with_reducible refine Below.drew ?_) | (with_reducible refine below_drewN ?_ _) | (refine Below.trans ?_ (Below.mono (by with_reducible assumption) (by (first | omega | (simp; done) | (simp; omega))))))), (hbk.keep hb5).keep hb6, Lib.hid (by rw [HG.out, ← List.append_assoc, hL.out])⟩
          case measure => simp [intOf]; omega
        · obtain rfl : k = n := by omega
          rw [List.take_of_length_le (by rw [HNl.out]; exact Nat.le_refl _)] at hL
          have hn6 := zigB_short (x := (m : Int)) (by omega) (by omega)
          go_wp2_with fail
          refine (HP.out (m : Int) _ (by omega) (by omega)).mono ?_
          rintro e w4 ⟨A5, c5, rfl, ho5, hb5⟩
          have hz5 := hb5.size
          go_wp2_with fail
          refine (spec_l01Join _ _ _ _ L (numB (zig (m : Int))) _ (Reads.of_own (own_below hown hb5)) (Reads.of_own ho5) (by omega) (by omega)).mono ?_
          rintro e w6 ⟨A6, c6, rfl, ho6, hb6⟩
          have hz6 := hb6.size
          have hBw : Below w.heap.size w w6 := by (repeat (first | (with_reducible exact Below.refl _ _) | (with_reducible assumption) | ((with_reducible refine Below.setCell ?_ ?_ _); rotate_left; focus (first | omega | (simp; done) | (simp; omega))) | ((with_reducible refine Below.alloc ?_ ?_ _); rotate_left; focus (first | omega | (simp; done) | (simp; omega))) | (with_reducible refine Below.drew ?_) | (with_reducible refine below_drewN ?_ _) | (refine Below.trans ?_ (Below.mono (by with_reducible assumption) (by (first | omega | (simp; done) | (simp; omega)))))))
          have BK6 := (hbk.keep hb5).keep hb6
          replace ho6 := own_base (base' := w.heap.size + 1) ho6 (by omega)
          have HL4 : Hid (L ++ numB (zig (m : Int)) = encHead r ++ numsB r.Nums ++ numB (zig (m : Int)) ++ textsB (r.Texts.take 0)) := Lib.hid (by rw [hL.out]; simp [textsB])
          generalize L ++ numB (zig (m : Int)) = L4 at *
          clear hc4 hb hb5 hb6 hbk hltw hown hL hlen ho5 hn6
          go_wp2
          go_loopw [4, 6] (fun o i wr => ∃ (q : Nat) (L : List UInt8) (A4 : Option Addr) (c4 : Nat), q ≤ m ∧ i = .int .i64 q ∧ o = .slice A4 L.length c4 ∧ wr.ownsRow (w.heap.size + 1) 5 1 (.slice A4 L.length c4) L.length (L.map byteV) ∧ Below w.heap.size w wr ∧ Blk wr w.heap.size 27 #[.int .i64 r.Kind, .slice A0 k c0, .slice A1 m c1] ∧ Hid (L = encHead r ++ numsB r.Nums ++ numB (zig (m : Int)) ++ textsB (r.Texts.take q))) (fun _ i _ => m - (intOf i).toNat)
          case atStart => exact ⟨0, L4, A6, c6, Nat.zero_le _, rfl, rfl, ho6, hBw, BK6, HL4⟩
          case round =>
            clear hBw BK6 ho6 HL4 hz5 hz6
            obtain ⟨q, L, A4, c4, hq, rfl, rfl, hown, hb, hbk, hL⟩ := hrel
            have hc4 := hbk.cell
            have hltw := hbk.lt
            have hlen : L.length ≤ 13000 := by
              have h1 := numsB_le HN.out
              have h2 := textsB_le (ss := r.Texts.take q) (fun x hx => HT.out x (List.mem_of_mem_take hx))
              have h3 := zigB_short (x := (m : Int)) (by omega) (by omega)
              have h4 := HNl.out
              rw [hL.out, List.length_append, List.length_append, List.length_append]
              rw [List.length_take] at h2
              omega
            by_cases hlt : q < m
            · have hlx : q < r.Texts.length := by rw [HTl.out]; exact hlt
              obtain ⟨b, off, rfl, hab, hcx⟩ := r1.at_ (by simpa using hlx) hb (Nat.le_refl _)
              rw [List.getElem_map] at hcx
              have hxr := HT.out _ (List.getElem_mem hlx)
              have HG := Lib.hid (textsB_snoc (List.getElem?_eq_getElem hlx))
              generalize r.Texts[q]'hlx = x at hcx hxr HG
              simp only [strV] at hcx
              have HS := Lib.hid (fun (w' : World) (hb' : Below wr.heap.size wr w') => (hb'.cell (p := ⟨b, off + q, none⟩) (by show b < _; have := hb.size; omega)).trans hcx)
              have hn6 := zigB_short (x := (x.size : Int)) (by omega) (by omega)
              have HCV : ∀ w', (convert 9 22 (.string x)).run Try.prog w' = .ok (.slice (some ⟨w'.heap.size, 0, none⟩) x.size (cvCap w' x)) (cvWorld w' x) := fun w' => run_cv w' x
              have HJ1 : Hid (∀ (w' : World) (A5 : Option Addr) (c5 : Nat), Below wr.heap.size wr w' → Reads w' w'.heap.size A5 ((numB (zig (x.size : Int))).map byteV) → Calls Try.prog 28 #[.slice A4 L.length c4, .slice A5 (numB (zig (x.size : Int))).length c5] w' fun e w'' => ∃ A2 c2, e = .returned (.slice A2 (L ++ numB (zig (x.size : Int))).length c2) ∧ w''.ownsRow w'.heap.size 5 1 (.slice A2 (L ++ numB (zig (x.size : Int))).length c2) (L ++ numB (zig (x.size : Int))).length ((L ++ numB (zig (x.size : Int))).map byteV) ∧ Below w'.heap.size w' w'') := Lib.hid (fun w' A5 c5 hb' hr' => spec_l01Join A4 A5 c4 c5 L (numB (zig (x.size : Int))) w' (Reads.of_own (own_below hown hb')) hr' (by omega) (by omega))
              have HJ2 : Hid (∀ (w' : World) (g : Nat) (A5 : Option Addr) (c5 c7 : Nat), Reads w' w'.heap.size A5 ((L ++ numB (zig (x.size : Int))).map byteV) → Reads w' w'.heap.size (some ⟨g, 0, none⟩) (x.data.toList.map byteV) → Calls Try.prog 28 #[.slice A5 (L.length + (numB (zig (x.size : Int))).length) c5, .slice (some ⟨g, 0, none⟩) x.size c7] w' fun e w'' => ∃ A2 c2, e = .returned (.slice A2 (L ++ numB (zig (x.size : Int)) ++ x.data.toList).length c2) ∧ w''.ownsRow w'.heap.size 5 1 (.slice A2 (L ++ numB (zig (x.size : Int)) ++ x.data.toList).length c2) (L ++ numB (zig (x.size : Int)) ++ x.data.toList).length ((L ++ numB (zig (x.size : Int)) ++ x.data.toList).map byteV) ∧ Below w'.heap.size w' w'') := Lib.hid (fun w' g A5 c5 c7 hr' hr'' => by rw [← List.length_append]; exact spec_l01Join A5 (some ⟨g, 0, none⟩) c5 c7 (L ++ numB (zig (x.size : Int))) x.data.toList w' hr' hr'' (by rw [List.length_append]; omega) (by show x.size ≤ _; omega))
              go_wp2
              refine wp_region_held_drew (S := (fun w' => w'.cell? ⟨w.heap.size, 2, none⟩ = some (.slice (some ⟨b, off, none⟩) m c1) ∧ w'.cell? ⟨b, off + q, none⟩ = some (.string x))) (by kernel_rfl) ?_ (fun hHeld => ?_)
              focus ((try dsimp only); (refine ⟨Blk.cell (t := 27) (cs := #[.int .i64 r.Kind, .slice A0 k c0, .slice (some ⟨b, off, none⟩) m c1]) ?_ 2, HS.out _ ?_⟩; (focus (repeat (first | (with_reducible assumption) | (with_reducible refine Blk.cv ?_ _) | ((with_reducible refine Blk.new' ?_); focus (simp; done)) | (with_reducible refine Blk.alloc ?_ _) | (with_reducible refine Blk.drew ?_) | (with_reducible refine Blk.drewN ?_ _) | ((with_reducible refine Blk.far ?_ ?_ _); rotate_left; focus (first | omega | (simp; done) | (simp; omega))) | (refine Blk.keep ?_ (by with_reducible assumption)) | (refine Blk.below ?_ (by with_reducible assumption) (by (first | omega | (simp; done) | (simp; omega))))))); (focus (repeat (first | (with_reducible exact Below.refl _ _) | (with_reducible assumption) | ((with_reducible refine cv_step ?_ ?_); rotate_left; focus (first | omega | (simp [cv_size]; done) | (simp [cv_size]; omega))) | ((with_reducible refine Below.setCell ?_ ?_ _); rotate_left; focus (first | omega | (simp; done) | (simp; omega))) | ((with_reducible refine Below.alloc ?_ ?_ _); rotate_left; focus (first | omega | (simp [cv_size]; done) | (simp [cv_size]; omega))) | (with_reducible refine Below.drew ?_) | (with_reducible refine below_drewN ?_ _) | (refine Below.trans ?_ (Below.mono (by with_reducible assumption) (by (first | omega | (simp [cv_size]; done) | (simp [cv_size]; omega))))))))))
              refine wpAnyH_take (i := 0) (v := ?_) rfl (by kernel_rfl) (by kernel_rfl) (by kernel_rfl) (fun _ _ _ h => h) (Or.inl ⟨by rfl, ?_⟩) (by assumption) ?_
              rotate_left
              focus (intro w' hSw; (try dsimp only at hSw); go_simp; try (with_reducible rfl))
              try simp only [Act.put, List.setIfInBounds_toArray, List.set_cons_zero, List.set_cons_succ]
              refine wpAnyH_take (i := 1) (v := ?_) rfl (by kernel_rfl) (by kernel_rfl) (by kernel_rfl) (fun _ _ _ h => h) (Or.inl ⟨by rfl, ?_⟩) (by assumption) ?_
              rotate_left
              focus (intro w' hSw; (try dsimp only at hSw); go_simp; try (with_reducible rfl))
              try simp only [Act.put, List.setIfInBounds_toArray, List.set_cons_zero, List.set_cons_succ]
              refine wpAnyH_take (i := 2) (v := ?_) rfl (by kernel_rfl) (by kernel_rfl) (by kernel_rfl) (fun _ _ _ h => h) (Or.inl ⟨by rfl, ?_⟩) (by assumption) ?_
              rotate_left
              focus (intro w' hSw; (try dsimp only at hSw); go_simp; try (with_reducible rfl))
              try simp only [Act.put, List.setIfInBounds_toArray, List.set_cons_zero, List.set_cons_succ]
              refine wpAnyH_take (i := 3) (v := ?_) rfl (by kernel_rfl) (by kernel_rfl) (by kernel_rfl) (fun _ _ _ h => h) (Or.inl ⟨by rfl, ?_⟩) (by assumption) ?_
              rotate_left
              focus (intro w' hSw; (try dsimp only at hSw); go_simp; try (with_reducible rfl))
              try simp only [Act.put, List.setIfInBounds_toArray, List.set_cons_zero, List.set_cons_succ]
              refine wpAnyH_take (i := 4) (v := ?_) rfl (by kernel_rfl) (by kernel_rfl) (by kernel_rfl) (fun _ _ _ h => h) (Or.inl ⟨by rfl, ?_⟩) (by assumption) ?_
              rotate_left
              focus (intro w' hSw; (try dsimp only at hSw); go_simp; try (with_reducible rfl))
              try simp only [Act.put, List.setIfInBounds_toArray, List.set_cons_zero, List.set_cons_succ]
              refine wpAnyH_take (i := 5) (v := ?_) rfl (by kernel_rfl) (by kernel_rfl) (by kernel_rfl) (fun _ _ _ h => h) (Or.inl ⟨by rfl, ?_⟩) (by assumption) ?_
              rotate_left
              focus (intro w' hSw; (try dsimp only at hSw); go_simp; try (with_reducible rfl))
              try simp only [Act.put, List.setIfInBounds_toArray, List.set_cons_zero, List.set_cons_succ]
              refine wpAnyH_take (i := 6) (v := ?_) rfl (by kernel_rfl) (by kernel_rfl) (by kernel_rfl) (fun _ _ _ h => h) (Or.inl ⟨by rfl, ?_⟩) (by assumption) ?_
              rotate_left
              focus (intro w' hSw; (try dsimp only at hSw); go_simp; try (with_reducible rfl))
              try simp only [Act.put, List.setIfInBounds_toArray, List.set_cons_zero, List.set_cons_succ]
              refine wpAnyH_take (i := 9) (v := ?_) rfl (by kernel_rfl) (by kernel_rfl) (by kernel_rfl) (fun _ _ _ h => h) (Or.inl ⟨by rfl, ?_⟩) (by assumption) ?_
              rotate_left
              focus (intro w' hSw; (try dsimp only at hSw); go_simp; try (with_reducible rfl))
              try simp only [Act.put, List.setIfInBounds_toArray, List.set_cons_zero, List.set_cons_succ]
              refine wpAnyH_take (i := 10) (v := ?_) rfl (by kernel_rfl) (by kernel_rfl) (by kernel_rfl) (fun _ _ _ h => h) (Or.inl ⟨by rfl, ?_⟩) (by assumption) ?_
              rotate_left
              focus (intro w' hSw; (try dsimp only at hSw); go_simp; try (with_reducible rfl))
              try simp only [Act.put, List.setIfInBounds_toArray, List.set_cons_zero, List.set_cons_succ]
              refine wpAnyH_take (i := 11) (v := ?_) rfl (by kernel_rfl) (by kernel_rfl) (by kernel_rfl) (fun _ _ _ h => h) (Or.inl ⟨by rfl, ?_⟩) (by assumption) ?_
              rotate_left
              focus (intro w' hSw; (try dsimp only at hSw); go_simp; try (with_reducible rfl))
              try simp only [Act.put, List.setIfInBounds_toArray, List.set_cons_zero, List.set_cons_succ]
              refine wpAnyH_take (i := 12) (v := ?_) rfl (by kernel_rfl) (by kernel_rfl) (by kernel_rfl) (fun _ _ _ h => h) (Or.inl ⟨by rfl, ?_⟩) (by assumption) ?_
              rotate_left
              focus (intro w' hSw; (try dsimp only at hSw); go_simp; try (with_reducible rfl))
              try simp only [Act.put, List.setIfInBounds_toArray, List.set_cons_zero, List.set_cons_succ]
              refine wpAnyH_take (i := 13) (v := ?_) rfl (by kernel_rfl) (by kernel_rfl) (by kernel_rfl) (fun _ _ _ h => h) (Or.inl ⟨by rfl, ?_⟩) (by assumption) ?_
              rotate_left
              focus (intro w' hSw; (try dsimp only at hSw); go_simp; try (with_reducible rfl))
              try simp only [Act.put, List.setIfInBounds_toArray, List.set_cons_zero, List.set_cons_succ]
              refine wpAnyH_ready (rs := [7, 14]) (by kernel_rfl) (by simp) ?_
              refine AllReadyH.cons rfl (fun K hK => ?_) ?_
              · go_simp
                ((with_reducible refine (HP.out _ _ (by omega) (by omega)).mono ?_); rintro e w4 ⟨A5, c5, rfl, ho5, hb5⟩; have hz5 := hb5.size; try simp [cv_size] at hz5)
                refine hK.out _ _ ?_ (fun hHeld => ?_)
                focus ((try dsimp only); (refine ⟨Blk.cell (t := 27) (cs := #[.int .i64 r.Kind, .slice A0 k c0, .slice (some ⟨b, off, none⟩) m c1]) ?_ 2, HS.out _ ?_⟩; (focus (repeat (first | (with_reducible assumption) | (with_reducible refine Blk.cv ?_ _) | ((with_reducible refine Blk.new' ?_); focus (simp; done)) | (with_reducible refine Blk.alloc ?_ _) | (with_reducible refine Blk.drew ?_) | (with_reducible refine Blk.drewN ?_ _) | ((with_reducible refine Blk.far ?_ ?_ _); rotate_left; focus (first | omega | (simp; done) | (simp; omega))) | (refine Blk.keep ?_ (by with_reducible assumption)) | (refine Blk.below ?_ (by with_reducible assumption) (by (first | omega | (simp; done) | (simp; omega))))))); (focus (repeat (first | (with_reducible exact Below.refl _ _) | (with_reducible assumption) | ((with_reducible refine cv_step ?_ ?_); rotate_left; focus (first | omega | (simp [cv_size]; done) | (simp [cv_size]; omega))) | ((with_reducible refine Below.setCell ?_ ?_ _); rotate_left; focus (first | omega | (simp; done) | (simp; omega))) | ((with_reducible refine Below.alloc ?_ ?_ _); rotate_left; focus (first | omega | (simp [cv_size]; done) | (simp [cv_size]; omega))) | (with_reducible refine Below.drew ?_) | (with_reducible refine below_drewN ?_ _) | (refine Below.trans ?_ (Below.mono (by with_reducible assumption) (by (first | omega | (simp [cv_size]; done) | (simp [cv_size]; omega))))))))))
                clear hK K
                try simp only [Act.put, List.setIfInBounds_toArray, List.set_cons_zero, List.set_cons_succ]
                refine wpAnyH_ready (rs := [8, 14]) (by kernel_rfl) (by simp) ?_
                refine AllReadyH.cons rfl (fun K hK => ?_) ?_
                · go_simp
                  ((with_reducible refine (HJ1.out _ _ _ ?_ ?_).mono ?_); (focus (repeat (first | (with_reducible exact Below.refl _ _) | (with_reducible assumption) | ((with_reducible refine cv_step ?_ ?_); rotate_left; focus (first | omega | (simp [cv_size]; done) | (simp [cv_size]; omega))) | ((with_reducible refine Below.setCell ?_ ?_ _); rotate_left; focus (first | omega | (simp; done) | (simp; omega))) | ((with_reducible refine Below.alloc ?_ ?_ _); rotate_left; focus (first | omega | (simp [cv_size]; done) | (simp [cv_size]; omega))) | (with_reducible refine Below.drew ?_) | (with_reducible refine below_drewN ?_ _) | (refine Below.trans ?_ (Below.mono (by with_reducible assumption) (by (first | omega | (simp [cv_size]; done) | (simp [cv_size]; omega)))))))); (focus (first | exact Reads.of_own ho5 | exact Reads.of_own (own_cv ho5 _))); rintro e w6 ⟨A6, c6, rfl, ho6, hb6⟩; have hz6 := hb6.size; try simp [cv_size] at hz6)
                  refine hK.out _ _ ?_ (fun hHeld => ?_)
                  focus ((try dsimp only); (refine ⟨Blk.cell (t := 27) (cs := #[.int .i64 r.Kind, .slice A0 k c0, .slice (some ⟨b, off, none⟩) m c1]) ?_ 2, HS.out _ ?_⟩; (focus (repeat (first | (with_reducible assumption) | (with_reducible refine Blk.cv ?_ _) | ((with_reducible refine Blk.new' ?_); focus (simp; done)) | (with_reducible refine Blk.alloc ?_ _) | (with_reducible refine Blk.drew ?_) | (with_reducible refine Blk.drewN ?_ _) | ((with_reducible refine Blk.far ?_ ?_ _); rotate_left; focus (first | omega | (simp; done) | (simp; omega))) | (refine Blk.keep ?_ (by with_reducible assumption)) | (refine Blk.below ?_ (by with_reducible assumption) (by (first | omega | (simp; done) | (simp; omega))))))); (focus (repeat (first | (with_reducible exact Below.refl _ _) | (with_reducible assumption) | ((with_reducible refine cv_step ?_ ?_); rotate_left; focus (first | omega | (simp [cv_size]; done) | (simp [cv_size]; omega))) | ((with_reducible refine Below.setCell ?_ ?_ _); rotate_left; focus (first | omega | (simp; done) | (simp; omega))) | ((with_reducible refine Below.alloc ?_ ?_ _); rotate_left; focus (first | omega | (simp [cv_size]; done) | (simp [cv_size]; omega))) | (with_reducible refine Below.drew ?_) | (with_reducible refine below_drewN ?_ _) | (refine Below.trans ?_ (Below.mono (by with_reducible assumption) (by (first | omega | (simp [cv_size]; done) | (simp [cv_size]; omega))))))))))
                  clear hK K
                  try simp only [Act.put, List.setIfInBounds_toArray, List.set_cons_zero, List.set_cons_succ]
                  refine wpAnyH_ready (rs := [14]) (by kernel_rfl) (by simp) ?_
                  refine AllReadyH.cons rfl (fun K hK => ?_) ?_
                  · go_simp
                    refine hK.out _ _ ?_ (fun hHeld => ?_)
                    focus ((try dsimp only); (refine ⟨Blk.cell (t := 27) (cs := #[.int .i64 r.Kind, .slice A0 k c0, .slice (some ⟨b, off, none⟩) m c1]) ?_ 2, HS.out _ ?_⟩; (focus (repeat (first | (with_reducible assumption) | (with_reducible refine Blk.cv ?_ _) | ((with_reducible refine Blk.new' ?_); focus (simp; done)) | (with_reducible refine Blk.alloc ?_ _) | (with_reducible refine Blk.drew ?_) | (with_reducible refine Blk.drewN ?_ _) | ((with_reducible refine Blk.far ?_ ?_ _); rotate_left; focus (first | omega | (simp; done) | (simp; omega))) | (refine Blk.keep ?_ (by with_reducible assumption)) | (refine Blk.below ?_ (by with_reducible assumption) (by (first | omega | (simp; done) | (simp; omega))))))); (focus (repeat (first | (with_reducible exact Below.refl _ _) | (with_reducible assumption) | ((with_reducible refine cv_step ?_ ?_); rotate_left; focus (first | omega | (simp [cv_size]; done) | (simp [cv_size]; omega))) | ((with_reducible refine Below.setCell ?_ ?_ _); rotate_left; focus (first | omega | (simp; done) | (simp; omega))) | ((with_reducible refine Below.alloc ?_ ?_ _); rotate_left; focus (first | omega | (simp [cv_size]; done) | (simp [cv_size]; omega))) | (with_reducible refine Below.drew ?_) | (with_reducible refine below_drewN ?_ _) | (refine Below.trans ?_ (Below.mono (by with_reducible assumption) (by (first | omega | (simp [cv_size]; done) | (simp [cv_size]; omega))))))))))
                    clear hK K
                    try simp only [Act.put, List.setIfInBounds_toArray, List.set_cons_zero, List.set_cons_succ]
                    refine wpAnyH_ready (rs := [15]) (by kernel_rfl) (by simp) ?_
                    refine AllReadyH.cons rfl (fun K hK => ?_) ?_
                    · go_simp
                      ((with_reducible refine (HJ2.out _ _ _ _ _ ?_ ?_).mono ?_); (focus (first | exact Reads.of_own ho6 | exact Reads.of_own (own_cv ho6 _))); (focus (first | exact cv_reads _ _ | exact ((cv_reads wr.drew x).keep (by (repeat (first | (with_reducible exact Below.refl _ _) | (with_reducible assumption) | ((with_reducible refine cv_step ?_ ?_); rotate_left; focus (first | omega | (simp [cv_size]; done) | (simp [cv_size]; omega))) | ((with_reducible refine Below.setCell ?_ ?_ _); rotate_left; focus (first | omega | (simp; done) | (simp; omega))) | ((with_reducible refine Below.alloc ?_ ?_ _); rotate_left; focus (first | omega | (simp [cv_size]; done) | (simp [cv_size]; omega))) | (with_reducible refine Below.drew ?_) | (with_reducible refine below_drewN ?_ _) | (refine Below.trans ?_ (Below.mono (by with_reducible assumption) (by (first | omega | (simp [cv_size]; done) | (simp [cv_size]; omega)))))))) (by first | omega | (simp [cv_size]; done) | (simp [cv_size]; omega))) | exact ((cv_reads _ _).keep (by (repeat (first | (with_reducible exact Below.refl _ _) | (with_reducible assumption) | ((with_reducible refine cv_step ?_ ?_); rotate_left; focus (first | omega | (simp [cv_size]; done) | (simp [cv_size]; omega))) | ((with_reducible refine Below.setCell ?_ ?_ _); rotate_left; focus (first | omega | (simp; done) | (simp; omega))) | ((with_reducible refine Below.alloc ?_ ?_ _); rotate_left; focus (first | omega | (simp [cv_size]; done) | (simp [cv_size]; omega))) | (with_reducible refine Below.drew ?_) | (with_reducible refine below_drewN ?_ _) | (refine Below.trans ?_ (Below.mono (by with_reducible assumption) (by (first | omega | (simp [cv_size]; done) | (simp [cv_size]; omega)))))))) (by first | omega | (simp [cv_size]; done) | (simp [cv_size]; omega))))); rintro e w7 ⟨A7, c7, rfl, ho7, hb7⟩; have hz7 := hb7.size; try simp [cv_size] at hz7)
                      refine hK.out _ _ ?_ (fun hHeld => ?_)
                      focus ((try dsimp only); (refine ⟨Blk.cell (t := 27) (cs := #[.int .i64 r.Kind, .slice A0 k c0, .slice (some ⟨b, off, none⟩) m c1]) ?_ 2, HS.out _ ?_⟩; (focus (repeat (first | (with_reducible assumption) | (with_reducible refine Blk.cv ?_ _) | ((with_reducible refine Blk.new' ?_); focus (simp; done)) | (with_reducible refine Blk.alloc ?_ _) | (with_reducible refine Blk.drew ?_) | (with_reducible refine Blk.drewN ?_ _) | ((with_reducible refine Blk.far ?_ ?_ _); rotate_left; focus (first | omega | (simp; done) | (simp; omega))) | (refine Blk.keep ?_ (by with_reducible assumption)) | (refine Blk.below ?_ (by with_reducible assumption) (by (first | omega | (simp; done) | (simp; omega))))))); (focus (repeat (first | (with_reducible exact Below.refl _ _) | (with_reducible assumption) | ((with_reducible refine cv_step ?_ ?_); rotate_left; focus (first | omega | (simp [cv_size]; done) | (simp [cv_size]; omega))) | ((with_reducible refine Below.setCell ?_ ?_ _); rotate_left; focus (first | omega | (simp; done) | (simp; omega))) | ((with_reducible refine Below.alloc ?_ ?_ _); rotate_left; focus (first | omega | (simp [cv_size]; done) | (simp [cv_size]; omega))) | (with_reducible refine Below.drew ?_) | (with_reducible refine below_drewN ?_ _) | (refine Below.trans ?_ (Below.mono (by with_reducible assumption) (by (first | omega | (simp [cv_size]; done) | (simp [cv_size]; omega))))))))))
                      clear hK K
                      try simp only [Act.put, List.setIfInBounds_toArray, List.set_cons_zero, List.set_cons_succ]
                      refine wpAnyH_take (i := 16) (v := ?_) rfl (by kernel_rfl) (by kernel_rfl) (by kernel_rfl) (fun _ _ _ h => h) (Or.inl ⟨by rfl, ?_⟩) (by assumption) ?_
                      rotate_left
                      focus (intro w' hSw; (try dsimp only at hSw); go_simp; try (with_reducible rfl))
                      try simp only [Act.put, List.setIfInBounds_toArray, List.set_cons_zero, List.set_cons_succ]
                      refine wpAnyH_done (by kernel_rfl) ?_ _
                      go_wp2
                      go_roundw
                      case rel =>
                        have hxl : x.data.toList.length = x.size := rfl
                        exact ⟨q + 1, L ++ numB (zig (x.size : Int)) ++ x.data.toList, A7, c7, by omega, by go_num, by simp only [List.length_append, hxl, Nat.add_assoc], own_base ho7 (by first | omega | (simp [cv_size]; omega)), by (repeat (first | (with_reducible exact Below.refl _ _) | (with_reducible assumption) | ((with_reducible refine cv_step ?_ ?_); rotate_left; focus (first | omega | (simp [cv_size]; done) | (simp [cv_size]; omega))) | ((with_reducible refine Below.setCell ?_ ?_ _); rotate_left; focus (first | omega | (simp; done) | (simp; omega))) | ((with_reducible refine Below.alloc ?_ ?_ _); rotate_left; focus (first | omega | (simp [cv_size]; done) | (simp [cv_size]; omega))) | (with_reducible refine Below.drew ?_) | (with_reducible refine below_drewN ?_ _) | (refine Below.trans ?_ (Below.mono (by with_reducible assumption) (by (first | omega | (simp [cv_size]; done) | (simp [cv_size]; omega))))))), by (repeat (first | (with_reducible assumption) | (with_reducible refine Blk.cv ?_ _) | ((with_reducible refine Blk.new' ?_); focus (simp; done)) | (with_reducible refine Blk.alloc ?_ _) | (with_reducible refine Blk.drew ?_) | (with_reducible refine Blk.drewN ?_ _) | ((with_reducible refine Blk.far ?_ ?_ _); rotate_left; focus (first | omega | (simp; done) | (simp; omega))) | (refine Blk.keep ?_ (by with_reducible assumption)) | (refine Blk.below ?_ (by with_reducible assumption) (by (first | omega | (simp; done) | (simp; omega)))))), Lib.hid (by rw [HG.out, hL.out]; simp only [textB, List.append_assoc])⟩
                      case measure => simp [intOf]; omega
                    exact AllReadyH.nil
                  exact AllReadyH.nil
                refine AllReadyH.cons rfl (fun K hK => ?_) ?_
                · go_simp
                  refine hK.out _ _ ?_ (fun hHeld => ?_)
                  focus ((try dsimp only); (refine ⟨Blk.cell (t := 27) (cs := #[.int .i64 r.Kind, .slice A0 k c0, .slice (some ⟨b, off, none⟩) m c1]) ?_ 2, HS.out _ ?_⟩; (focus (repeat (first | (with_reducible assumption) | (with_reducible refine Blk.cv ?_ _) | ((with_reducible refine Blk.new' ?_); focus (simp; done)) | (with_reducible refine Blk.alloc ?_ _) | (with_reducible refine Blk.drew ?_) | (with_reducible refine Blk.drewN ?_ _) | ((with_reducible refine Blk.far ?_ ?_ _); rotate_left; focus (first | omega | (simp; done) | (simp; omega))) | (refine Blk.keep ?_ (by with_reducible assumption)) | (refine Blk.below ?_ (by with_reducible assumption) (by (first | omega | (simp; done) | (simp; omega))))))); (focus (repeat (first | (with_reducible exact Below.refl _ _) | (with_reducible assumption) | ((with_reducible refine cv_step ?_ ?_); rotate_left; focus (first | omega | (simp [cv_size]; done) | (simp [cv_size]; omega))) | ((with_reducible refine Below.setCell ?_ ?_ _); rotate_left; focus (first | omega | (simp; done) | (simp; omega))) | ((with_reducible refine Below.alloc ?_ ?_ _); rotate_left; focus (first | omega | (simp [cv_size]; done) | (simp [cv_size]; omega))) | (with_reducible refine Below.drew ?_) | (with_reducible refine below_drewN ?_ _) | (refine Below.trans ?_ (Below.mono (by with_reducible assumption) (by (first | omega | (simp [cv_size]; done) | (simp [cv_size]; omega))))))))))
                  clear hK K
                  try simp only [Act.put, List.setIfInBounds_toArray, List.set_cons_zero, List.set_cons_succ]
                  refine wpAnyH_ready (rs := [8]) (by kernel_rfl) (by simp) ?_
                  refine AllReadyH.cons rfl (fun K hK => ?_) ?_
                  · go_simp
                    ((with_reducible refine (HJ1.out _ _ _ ?_ ?_).mono ?_); (focus (repeat (first | (with_reducible exact Below.refl _ _) | (with_reducible assumption) | ((with_reducible refine cv_step ?_ ?_); rotate_left; focus (first | omega | (simp [cv_size]; done) | (simp [cv_size]; omega))) | ((with_reducible refine Below.setCell ?_ ?_ _); rotate_left; focus (first | omega | (simp; done) | (simp; omega))) | ((with_reducible refine Below.alloc ?_ ?_ _); rotate_left; focus (first | omega | (simp [cv_size]; done) | (simp [cv_size]; omega))) | (with_reducible refine Below.drew ?_) | (with_reducible refine below_drewN ?_ _) | (refine Below.trans ?_ (Below.mono (by with_reducible assumption) (by (first | omega | (simp [cv_size]; done) | (simp [cv_size]; omega)))))))); (focus (first | exact Reads.of_own ho5 | exact Reads.of_own (own_cv ho5 _))); rintro e w6 ⟨A6, c6, rfl, ho6, hb6⟩; have hz6 := hb6.size; try simp [cv_size] at hz6)
                    refine hK.out _ _ ?_ (fun hHeld => ?_)
                    focus ((try dsimp only); (refine ⟨Blk.cell (t := 27) (cs := #[.int .i64 r.Kind, .slice A0 k c0, .slice (some ⟨b, off, none⟩) m c1]) ?_ 2, HS.out _ ?_⟩; (focus (repeat (first | (with_reducible assumption) | (with_reducible refine Blk.cv ?_ _) | ((with_reducible refine Blk.new' ?_); focus (simp; done)) | (with_reducible refine Blk.alloc ?_ _) | (with_reducible refine Blk.drew ?_) | (with_reducible refine Blk.drewN ?_ _) | ((with_reducible refine Blk.far ?_ ?_ _); rotate_left; focus (first | omega | (simp; done) | (simp; omega))) | (refine Blk.keep ?_ (by with_reducible assumption)) | (refine Blk.below ?_ (by with_reducible assumption) (by (first | omega | (simp; done) | (simp; omega))))))); (focus (repeat (first | (with_reducible exact Below.refl _ _) | (with_reducible assumption) | ((with_reducible refine cv_step ?_ ?_); rotate_left; focus (first | omega | (simp [cv_size]; done) | (simp [cv_size]; omega))) | ((with_reducible refine Below.setCell ?_ ?_ _); rotate_left; focus (first | omega | (simp; done) | (simp; omega))) | ((with_reducible refine Below.alloc ?_ ?_ _); rotate_left; focus (first | omega | (simp [cv_size]; done) | (simp [cv_size]; omega))) | (with_reducible refine Below.drew ?_) | (with_reducible refine below_drewN ?_ _) | (refine Below.trans ?_ (Below.mono (by with_reducible assumption) (by (first | omega | (simp [cv_size]; done) | (simp [cv_size]; omega))))))))))
                    clear hK K
                    try simp only [Act.put, List.setIfInBounds_toArray, List.set_cons_zero, List.set_cons_succ]
                    refine wpAnyH_ready (rs := [15]) (by kernel_rfl) (by simp) ?_
                    refine AllReadyH.cons rfl (fun K hK => ?_) ?_
                    · go_simp
                      ((with_reducible refine (HJ2.out _ _ _ _ _ ?_ ?_).mono ?_); (focus (first | exact Reads.of_own ho6 | exact Reads.of_own (own_cv ho6 _))); (focus (first | exact cv_reads _ _ | exact ((cv_reads wr.drew x).keep (by (repeat (first | (with_reducible exact Below.refl _ _) | (with_reducible assumption) | ((with_reducible refine cv_step ?_ ?_); rotate_left; focus (first | omega | (simp [cv_size]; done) | (simp [cv_size]; omega))) | ((with_reducible refine Below.setCell ?_ ?_ _); rotate_left; focus (first | omega | (simp; done) | (simp; omega))) | ((with_reducible refine Below.alloc ?_ ?_ _); rotate_left; focus (first | omega | (simp [cv_size]; done) | (simp [cv_size]; omega))) | (with_reducible refine Below.drew ?_) | (with_reducible refine below_drewN ?_ _) | (refine Below.trans ?_ (Below.mono (by with_reducible assumption) (by (first | omega | (simp [cv_size]; done) | (simp [cv_size]; omega)))))))) (by first | omega | (simp [cv_size]; done) | (simp [cv_size]; omega))) | exact ((cv_reads _ _).keep (by (repeat (first | (with_reducible exact Below.refl _ _) | (with_reducible assumption) | ((with_reducible refine cv_step ?_ ?_); rotate_left; focus (first | omega | (simp [cv_size]; done) | (simp [cv_size]; omega))) | ((with_reducible refine Below.setCell ?_ ?_ _); rotate_left; focus (first | omega | (simp; done) | (simp; omega))) | ((with_reducible refine Below.alloc ?_ ?_ _); rotate_left; focus (first | omega | (simp [cv_size]; done) | (simp [cv_size]; omega))) | (with_reducible refine Below.drew ?_) | (with_reducible refine below_drewN ?_ _) | (refine Below.trans ?_ (Below.mono (by with_reducible assumption) (by (first | omega | (simp [cv_size]; done) | (simp [cv_size]; omega)))))))) (by first | omega | (simp [cv_size]; done) | (simp [cv_size]; omega))))); rintro e w7 ⟨A7, c7, rfl, ho7, hb7⟩; have hz7 := hb7.size; try simp [cv_size] at hz7)
                      refine hK.out _ _ ?_ (fun hHeld => ?_)
                      focus ((try dsimp only); (refine ⟨Blk.cell (t := 27) (cs := #[.int .i64 r.Kind, .slice A0 k c0, .slice (some ⟨b, off, none⟩) m c1]) ?_ 2, HS.out _ ?_⟩; (focus (repeat (first | (with_reducible assumption) | (with_reducible refine Blk.cv ?_ _) | ((with_reducible refine Blk.new' ?_); focus (simp; done)) | (with_reducible refine Blk.alloc ?_ _) | (with_reducible refine Blk.drew ?_) | (with_reducible refine Blk.drewN ?_ _) | ((with_reducible refine Blk.far ?_ ?_ _); rotate_left; focus (first | omega | (simp; done) | (simp; omega))) | (refine Blk.keep ?_ (by with_reducible assumption)) | (refine Blk.below ?_ (by with_reducible assumption) (by (first | omega | (simp; done) | (simp; omega))))))); (focus (repeat (first | (with_reducible exact Below.refl _ _) | (with_reducible assumption) | ((with_reducible refine cv_step ?_ ?_); rotate_left; focus (first | omega | (simp [cv_size]; done) | (simp [cv_size]; omega))) | ((with_reducible refine Below.setCell ?_ ?_ _); rotate_left; focus (first | omega | (simp; done) | (simp; omega))) | ((with_reducible refine Below.alloc ?_ ?_ _); rotate_left; focus (first | omega | (simp [cv_size]; done) | (simp [cv_size]; omega))) | (with_reducible refine Below.drew ?_) | (with_reducible refine below_drewN ?_ _) | (refine Below.trans ?_ (Below.mono (by with_reducible assumption) (by (first | omega | (simp [cv_size]; done) | (simp [cv_size]; omega))))))))))
                      clear hK K
                      try simp only [Act.put, List.setIfInBounds_toArray, List.set_cons_zero, List.set_cons_succ]
                      refine wpAnyH_take (i := 16) (v := ?_) rfl (by kernel_rfl) (by kernel_rfl) (by kernel_rfl) (fun _ _ _ h => h) (Or.inl ⟨by rfl, ?_⟩) (by assumption) ?_
                      rotate_left
                      focus (intro w' hSw; (try dsimp only at hSw); go_simp; try (with_reducible rfl))
                      try simp only [Act.put, List.setIfInBounds_toArray, List.set_cons_zero, List.set_cons_succ]
                      refine wpAnyH_done (by kernel_rfl) ?_ _
                      go_wp2
                      go_roundw
                      case rel =>
                        have hxl : x.data.toList.length = x.size := rfl
                        exact ⟨q + 1, L ++ numB (zig (x.size : Int)) ++ x.data.toList, A7, c7, by omega, by go_num, by simp only [List.length_append, hxl, Nat.add_assoc], own_base ho7 (by first | omega | (simp [cv_size]; omega)), by (repeat (first | (with_reducible exact Below.refl _ _) | (with_reducible assumption) | ((with_reducible refine cv_step ?_ ?_); rotate_left; focus (first | omega | (simp [cv_size]; done) | (simp [cv_size]; omega))) | ((with_reducible refine Below.setCell ?_ ?_ _); rotate_left; focus (first | omega | (simp; done) | (simp; omega))) | ((with_reducible refine Below.alloc ?_ ?_ _); rotate_left; focus (first | omega | (simp [cv_size]; done) | (simp [cv_size]; omega))) | (with_reducible refine Below.drew ?_) | (with_reducible refine below_drewN ?_ _) | (refine Below.trans ?_ (Below.mono (by with_reducible assumption) (by (first | omega | (simp [cv_size]; done) | (simp [cv_size]; omega))))))), by (repeat (first | (with_reducible assumption) | (with_reducible refine Blk.cv ?_ _) | ((with_reducible refine Blk.new' ?_); focus (simp; done)) | (with_reducible refine Blk.alloc ?_ _) | (with_reducible refine Blk.drew ?_) | (with_reducible refine Blk.drewN ?_ _) | ((with_reducible refine Blk.far ?_ ?_ _); rotate_left; focus (first | omega | (simp; done) | (simp; omega))) | (refine Blk.keep ?_ (by with_reducible assumption)) | (refine Blk.below ?_ (by with_reducible assumption) (by (first | omega | (simp; done) | (simp; omega)))))), Lib.hid (by rw [HG.out, hL.out]; simp only [textB, List.append_assoc])⟩
                      case measure => simp [intOf]; omega
                    exact AllReadyH.nil
                  exact AllReadyH.nil
                exact AllReadyH.nil
              refine AllReadyH.cons rfl (fun K hK => ?_) ?_
              · go_simp
                refine hK.out _ _ ?_ (fun hHeld => ?_)
                focus ((try dsimp only); (refine ⟨Blk.cell (t := 27) (cs := #[.int .i64 r.Kind, .slice A0 k c0, .slice (some ⟨b, off, none⟩) m c1]) ?_ 2, HS.out _ ?_⟩; (focus (repeat (first | (with_reducible assumption) | (with_reducible refine Blk.cv ?_ _) | ((with_reducible refine Blk.new' ?_); focus (simp; done)) | (with_reducible refine Blk.alloc ?_ _) | (with_reducible refine Blk.drew ?_) | (with_reducible refine Blk.drewN ?_ _) | ((with_reducible refine Blk.far ?_ ?_ _); rotate_left; focus (first | omega | (simp; done) | (simp; omega))) | (refine Blk.keep ?_ (by with_reducible assumption)) | (refine Blk.below ?_ (by with_reducible assumption) (by (first | omega | (simp; done) | (simp; omega))))))); (focus (repeat (first | (with_reducible exact Below.refl _ _) | (with_reducible assumption) | ((with_reducible refine cv_step ?_ ?_); rotate_left; focus (first | omega | (simp [cv_size]; done) | (simp [cv_size]; omega))) | ((with_reducible refine Below.setCell ?_ ?_ _); rotate_left; focus (first | omega | (simp; done) | (simp; omega))) | ((with_reducible refine Below.alloc ?_ ?_ _); rotate_left; focus (first | omega | (simp [cv_size]; done) | (simp [cv_size]; omega))) | (with_reducible refine Below.drew ?_) | (with_reducible refine below_drewN ?_ _) | (refine Below.trans ?_ (Below.mono (by with_reducible assumption) (by (first | omega | (simp [cv_size]; done) | (simp [cv_size]; omega))))))))))
                clear hK K
                try simp only [Act.put, List.setIfInBounds_toArray, List.set_cons_zero, List.set_cons_succ]
                refine wpAnyH_ready (rs := [7]) (by kernel_rfl) (by simp) ?_
                refine AllReadyH.cons rfl (fun K hK => ?_) ?_
                · go_simp
                  ((with_reducible refine (HP.out _ _ (by omega) (by omega)).mono ?_); rintro e w4 ⟨A5, c5, rfl, ho5, hb5⟩; have hz5 := hb5.size; try simp [cv_size] at hz5)
                  refine hK.out _ _ ?_ (fun hHeld => ?_)
                  focus ((try dsimp only); (refine ⟨Blk.cell (t := 27) (cs := #[.int .i64 r.Kind, .slice A0 k c0, .slice (some ⟨b, off, none⟩) m c1]) ?_ 2, HS.out _ ?_⟩; (focus (repeat (first | (with_reducible assumption) | (with_reducible refine Blk.cv ?_ _) | ((with_reducible refine Blk.new' ?_); focus (simp; done)) | (with_reducible refine Blk.alloc ?_ _) | (with_reducible refine Blk.drew ?_) | (with_reducible refine Blk.drewN ?_ _) | ((with_reducible refine Blk.far ?_ ?_ _); rotate_left; focus (first | omega | (simp; done) | (simp; omega))) | (refine Blk.keep ?_ (by with_reducible assumption)) | (refine Blk.below ?_ (by with_reducible assumption) (by (first | omega | (simp; done) | (simp; omega))))))); (focus (repeat (first | (with_reducible exact Below.refl _ _) | (with_reducible assumption) | ((with_reducible refine cv_step ?_ ?_); rotate_left; focus (first | omega | (simp [cv_size]; done) | (simp [cv_size]; omega))) | ((with_reducible refine Below.setCell ?_ ?_ _); rotate_left; focus (first | omega | (simp; done) | (simp; omega))) | ((with_reducible refine Below.alloc ?_ ?_ _); rotate_left; focus (first | omega | (simp [cv_size]; done) | (simp [cv_size]; omega))) | (with_reducible refine Below.drew ?_) | (with_reducible refine below_drewN ?_ _) | (refine Below.trans ?_ (Below.mono (by with_reducible assumption) (by (first | omega | (simp [cv_size]; done) | (simp [cv_size]; omega))))))))))
                  clear hK K
                  try simp only [Act.put, List.setIfInBounds_toArray, List.set_cons_zero, List.set_cons_succ]
                  refine wpAnyH_ready (rs := [8]) (by kernel_rfl) (by simp) ?_
                  refine AllReadyH.cons rfl (fun K hK => ?_) ?_
                  · go_simp
                    ((with_reducible refine (HJ1.out _ _ _ ?_ ?_).mono ?_); (focus (repeat (first | (with_reducible exact Below.refl _ _) | (with_reducible assumption) | ((with_reducible refine cv_step ?_ ?_); rotate_left; focus (first | omega | (simp [cv_size]; done) | (simp [cv_size]; omega))) | ((with_reducible refine Below.setCell ?_ ?_ _); rotate_left; focus (first | omega | (simp; done) | (simp; omega))) | ((with_reducible refine Below.alloc ?_ ?_ _); rotate_left; focus (first | omega | (simp [cv_size]; done) | (simp [cv_size]; omega))) | (with_reducible refine Below.drew ?_) | (with_reducible refine below_drewN ?_ _) | (refine Below.trans ?_ (Below.mono (by with_reducible assumption) (by (first | omega | (simp [cv_size]; done) | (simp [cv_size]; omega)))))))); (focus (first | exact Reads.of_own ho5 | exact Reads.of_own (own_cv ho5 _))); rintro e w6 ⟨A6, c6, rfl, ho6, hb6⟩; have hz6 := hb6.size; try simp [cv_size] at hz6)
                    refine hK.out _ _ ?_ (fun hHeld => ?_)
                    focus ((try dsimp only); (refine ⟨Blk.cell (t := 27) (cs := #[.int .i64 r.Kind, .slice A0 k c0, .slice (some ⟨b, off, none⟩) m c1]) ?_ 2, HS.out _ ?_⟩; (focus (repeat (first | (with_reducible assumption) | (with_reducible refine Blk.cv ?_ _) | ((with_reducible refine Blk.new' ?_); focus (simp; done)) | (with_reducible refine Blk.alloc ?_ _) | (with_reducible refine Blk.drew ?_) | (with_reducible refine Blk.drewN ?_ _) | ((with_reducible refine Blk.far ?_ ?_ _); rotate_left; focus (first | omega | (simp; done) | (simp; omega))) | (refine Blk.keep ?_ (by with_reducible assumption)) | (refine Blk.below ?_ (by with_reducible assumption) (by (first | omega | (simp; done) | (simp; omega))))))); (focus (repeat (first | (with_reducible exact Below.refl _ _) | (with_reducible assumption) | ((with_reducible refine cv_step ?_ ?_); rotate_left; focus (first | omega | (simp [cv_size]; done) | (simp [cv_size]; omega))) | ((with_reducible refine Below.setCell ?_ ?_ _); rotate_left; focus (first | omega | (simp; done) | (simp; omega))) | ((with_reducible refine Below.alloc ?_ ?_ _); rotate_left; focus (first | omega | (simp [cv_size]; done) | (simp [cv_size]; omega))) | (with_reducible refine Below.drew ?_) | (with_reducible refine below_drewN ?_ _) | (refine Below.trans ?_ (Below.mono (by with_reducible assumption) (by (first | omega | (simp [cv_size]; done) | (simp [cv_size]; omega))))))))))
                    clear hK K
                    try simp only [Act.put, List.setIfInBounds_toArray, List.set_cons_zero, List.set_cons_succ]
                    refine wpAnyH_ready (rs := [15]) (by kernel_rfl) (by simp) ?_
                    refine AllReadyH.cons rfl (fun K hK => ?_) ?_
                    · go_simp
                      ((with_reducible refine (HJ2.out _ _ _ _ _ ?_ ?_).mono ?_); (focus (first | exact Reads.of_own ho6 | exact Reads.of_own (own_cv ho6 _))); (focus (first | exact cv_reads _ _ | exact ((cv_reads wr.drew x).keep (by (repeat (first | (with_reducible exact Below.refl _ _) | (with_reducible assumption) | ((with_reducible refine cv_step ?_ ?_); rotate_left; focus (first | omega | (simp [cv_size]; done) | (simp [cv_size]; omega))) | ((with_reducible refine Below.setCell ?_ ?_ _); rotate_left; focus (first | omega | (simp; done) | (simp; omega))) | ((with_reducible refine Below.alloc ?_ ?_ _); rotate_left; focus (first | omega | (simp [cv_size]; done) | (simp [cv_size]; omega))) | (with_reducible refine Below.drew ?_) | (with_reducible refine below_drewN ?_ _) | (refine Below.trans ?_ (Below.mono (by with_reducible assumption) (by (first | omega | (simp [cv_size]; done) | (simp [cv_size]; omega)))))))) (by first | omega | (simp [cv_size]; done) | (simp [cv_size]; omega))) | exact ((cv_reads _ _).keep (by (repeat (first | (with_reducible exact Below.refl _ _) | (with_reducible assumption) | ((with_reducible refine cv_step ?_ ?_); rotate_left; focus (first | omega | (simp [cv_size]; done) | (simp [cv_size]; omega))) | ((with_reducible refine Below.setCell ?_ ?_ _); rotate_left; focus (first | omega | (simp; done) | (simp; omega))) | ((with_reducible refine Below.alloc ?_ ?_ _); rotate_left; focus (first | omega | (simp [cv_size]; done) | (simp [cv_size]; omega))) | (with_reducible refine Below.drew ?_) | (with_reducible refine below_drewN ?_ _) | (refine Below.trans ?_ (Below.mono (by with_reducible assumption) (by (first | omega | (simp [cv_size]; done) | (simp [cv_size]; omega)))))))) (by first | omega | (simp [cv_size]; done) | (simp [cv_size]; omega))))); rintro e w7 ⟨A7, c7, rfl, ho7, hb7⟩; have hz7 := hb7.size; try simp [cv_size] at hz7)
                      refine hK.out _ _ ?_ (fun hHeld => ?_)
                      focus ((try dsimp only); (refine ⟨Blk.cell (t := 27) (cs := #[.int .i64 r.Kind, .slice A0 k c0, .slice (some ⟨b, off, none⟩) m c1]) ?_ 2, HS.out _ ?_⟩; (focus (repeat (first | (with_reducible assumption) | (with_reducible refine Blk.cv ?_ _) | ((with_reducible refine Blk.new' ?_); focus (simp; done)) | (with_reducible refine Blk.alloc ?_ _) | (with_reducible refine Blk.drew ?_) | (with_reducible refine Blk.drewN ?_ _) | ((with_reducible refine Blk.far ?_ ?_ _); rotate_left; focus (first | omega | (simp; done) | (simp; omega))) | (refine Blk.keep ?_ (by with_reducible assumption)) | (refine Blk.below ?_ (by with_reducible assumption) (by (first | omega | (simp; done) | (simp; omega))))))); (focus (repeat (first | (with_reducible exact Below.refl _ _) | (with_reducible assumption) | ((with_reducible refine cv_step ?_ ?_); rotate_left; focus (first | omega | (simp [cv_size]; done) | (simp [cv_size]; omega))) | ((with_reducible refine Below.setCell ?_ ?_ _); rotate_left; focus (first | omega | (simp; done) | (simp; omega))) | ((with_reducible refine Below.alloc ?_ ?_ _); rotate_left; focus (first | omega | (simp [cv_size]; done) | (simp [cv_size]; omega))) | (with_reducible refine Below.drew ?_) | (with_reducible refine below_drewN ?_ _) | (refine Below.trans ?_ (Below.mono (by with_reducible assumption) (by (first | omega | (simp [cv_size]; done) | (simp [cv_size]; omega))))))))))
                      clear hK K
                      try simp only [Act.put, List.setIfInBounds_toArray, List.set_cons_zero, List.set_cons_succ]
                      refine wpAnyH_take (i := 16) (v := ?_) rfl (by kernel_rfl) (by kernel_rfl) (by kernel_rfl) (fun _ _ _ h => h) (Or.inl ⟨by rfl, ?_⟩) (by assumption) ?_
                      rotate_left
                      focus (intro w' hSw; (try dsimp only at hSw); go_simp; try (with_reducible rfl))
                      try simp only [Act.put, List.setIfInBounds_toArray, List.set_cons_zero, List.set_cons_succ]
                      refine wpAnyH_done (by kernel_rfl) ?_ _
                      go_wp2
                      go_roundw
                      case rel =>
                        have hxl : x.data.toList.length = x.size := rfl
                        exact ⟨q + 1, L ++ numB (zig (x.size : Int)) ++ x.data.toList, A7, c7, by omega, by go_num, by simp only [List.length_append, hxl, Nat.add_assoc], own_base ho7 (by first | omega | (simp [cv_size]; omega)), by (repeat (first | (with_reducible exact Below.refl _ _) | (with_reducible assumption) | ((with_reducible refine cv_step ?_ ?_); rotate_left; focus (first | omega | (simp [cv_size]; done) | (simp [cv_size]; omega))) | ((with_reducible refine Below.setCell ?_ ?_ _); rotate_left; focus (first | omega | (simp; done) | (simp; omega))) | ((with_reducible refine Below.alloc ?_ ?_ _); rotate_left; focus (first | omega | (simp [cv_size]; done) | (simp [cv_size]; omega))) | (with_reducible refine Below.drew ?_) | (with_reducible refine below_drewN ?_ _) | (refine Below.trans ?_ (Below.mono (by with_reducible assumption) (by (first | omega | (simp [cv_size]; done) | (simp [cv_size]; omega))))))), by (repeat (first | (with_reducible assumption) | (with_reducible refine Blk.cv ?_ _) | ((with_reducible refine Blk.new' ?_); focus (simp; done)) | (with_reducible refine Blk.alloc ?_ _) | (with_reducible refine Blk.drew ?_) | (with_reducible refine Blk.drewN ?_ _) | ((with_reducible refine Blk.far ?_ ?_ _); rotate_left; focus (first | omega | (simp; done) | (simp; omega))) | (refine Blk.keep ?_ (by with_reducible assumption)) | (refine Blk.below ?_ (by with_reducible assumption) (by (first | omega | (simp; done) | (simp; omega)))))), Lib.hid (by rw [HG.out, hL.out]; simp only [textB, List.append_assoc])⟩
                      case measure => simp [intOf]; omega
                    exact AllReadyH.nil
                  exact AllReadyH.nil
                exact AllReadyH.nil
              exact AllReadyH.nil
            · obtain rfl : q = m := by omega
              have hL2 : Hid (L = encList r) := Lib.hid (by rw [hL.out, List.take_of_length_le (by rw [HTl.out]; exact Nat.le_refl _), encList, HTl.out])
              clear hL
              by_cases hbig : 4000 < L.length
              · have HR := Lib.hid (encOk_big (r := r) (by rw [← hL2.out]; exact hbig))
                have HR2 := Lib.hid (encB_no HR.out)
                go_wp2
                go_ret2
                exact ⟨none, 0, by rw [HR.out, HR2.out]; rfl, by rw [HR2.out]; exact World.ownsRow_nil _ _ _ _, hb⟩
              · have HR := Lib.hid (encOk_good Hok.out (by rw [← hL2.out]; omega))
                have HR2 := Lib.hid ((encB_yes HR.out).trans hL2.out.symm)
                go_wp2
                go_ret2
                exact ⟨A4, c4, by rw [HR.out, HR2.out]; rfl, by rw [HR2.out]; exact own_base hown (by omega), hb⟩
end Go.Proofs.Ytndgaakfndokgaa

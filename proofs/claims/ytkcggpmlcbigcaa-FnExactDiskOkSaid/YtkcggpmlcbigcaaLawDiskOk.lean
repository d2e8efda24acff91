/- FnExactDiskOk: the walk of the law. -/
import Derived.Test.YtkcggpmlcbigcaaDisk
namespace Go.Proofs.Ytkcggpmlcbigcaa
open Go.RowKit
set_option maxHeartbeats 800000 in
theorem law_FnExactDiskOk (A A' : Option Addr) (n c n' c' : Nat) (xs ys : List UInt8) (w : World) (hn : xs.length = n) (hn' : ys.length = n') (hr : Reads w w.heap.size A (xs.map byteV)) (hr' : Reads w w.heap.size A' (ys.map byteV))
    (hm0 : n ≤ 9223372036854775807) (hm0' : n' ≤ 9223372036854775807) :
    Calls Try.prog 3 #[.agg #[.slice A n c, .slice A' n' c']] w fun e w' => e = .returned (.bool true) ∧ Below w.heap.size w w' := by
  have Hn := Lib.hid hn
  have Hn' := Lib.hid hn'
  clear hn hn'
  go_enter Try.func3, Try.ntmps3
  go_wp2_with fail
  refine (laws_szDisk _ _ _ _ _ _ _ _ hm0 hm0' (by first | omega | (simp; done) | (simp; omega)) (by first | omega | (simp; done) | (simp; omega))).mono ?_
  rintro e w1 ⟨rfl, hb1⟩
  have hz1 := hb1.size; try simp at hz1
  have BK0 := (Blk.new w _ _).keep hb1; have hc0 := BK0.cell; have hf0 := BK0.frozen
  by_cases hs : leftOf 1048576 (n + n') < 0
  · go_wp2
    go_ret
    exact ⟨rfl, by (repeat (first | exact Below.refl _ _ | assumption | (refine Below.setCell ?_ (by first | omega | (simp; done) | (simp; omega)) _) | (refine Below.alloc ?_ (by first | omega | (simp; done) | (simp; omega)) _) | (refine Below.drew ?_) | (refine below_drewN ?_ _) | (refine Below.trans ?_ (Below.mono (by assumption) (by first | omega | (simp; done) | (simp; omega))))))⟩
  · have hs' := leftOf_le (Int.not_lt.1 hs)
    have hm : n ≤ 140737488351232 := by omega
    have hm' : n' ≤ 140737488351232 := by omega
    clear hm0 hm0' hs'
    go_wp2_with fail
    refine (laws_toDisk _ _ _ _ _ _ _ _ _ Hn.out Hn'.out (hr.keep (by (repeat (first | exact Below.refl _ _ | assumption | (refine Below.setCell ?_ (by first | omega | (simp; done) | (simp; omega)) _) | (refine Below.alloc ?_ (by first | omega | (simp; done) | (simp; omega)) _) | (refine Below.drew ?_) | (refine below_drewN ?_ _) | (refine Below.trans ?_ (Below.mono (by assumption) (by first | omega | (simp; done) | (simp; omega))))))) (by first | omega | (simp; done) | (simp; omega))) (hr'.keep (by (repeat (first | exact Below.refl _ _ | assumption | (refine Below.setCell ?_ (by first | omega | (simp; done) | (simp; omega)) _) | (refine Below.alloc ?_ (by first | omega | (simp; done) | (simp; omega)) _) | (refine Below.drew ?_) | (refine below_drewN ?_ _) | (refine Below.trans ?_ (Below.mono (by assumption) (by first | omega | (simp; done) | (simp; omega))))))) (by first | omega | (simp; done) | (simp; omega))) hm hm').mono ?_
    rintro e w2 ⟨A1, c1, A2, c2, B1, rfl, ho1, ho2, _, _, hb2⟩
    have hz2 := hb2.size; try simp at hz2
    replace BK0 := BK0.keep hb2; replace hc0 := BK0.cell; replace hf0 := BK0.frozen
    go_wp2_with fail
    refine (spec_DiskOk _ _ _ _ _ _ _ hm hm').mono ?_
    rintro e w3 ⟨rfl, hb3⟩
    have hz3 := hb3.size; try simp at hz3
    replace BK0 := BK0.keep hb3; replace hc0 := BK0.cell; replace hf0 := BK0.frozen
    go_wp2_with fail
    refine (laws_toDisk _ _ _ _ _ _ _ _ _ Hn.out Hn'.out (hr.keep (by (repeat (first | exact Below.refl _ _ | assumption | (refine Below.setCell ?_ (by first | omega | (simp; done) | (simp; omega)) _) | (refine Below.alloc ?_ (by first | omega | (simp; done) | (simp; omega)) _) | (refine Below.drew ?_) | (refine below_drewN ?_ _) | (refine Below.trans ?_ (Below.mono (by assumption) (by first | omega | (simp; done) | (simp; omega))))))) (by first | omega | (simp; done) | (simp; omega))) (hr'.keep (by (repeat (first | exact Below.refl _ _ | assumption | (refine Below.setCell ?_ (by first | omega | (simp; done) | (simp; omega)) _) | (refine Below.alloc ?_ (by first | omega | (simp; done) | (simp; omega)) _) | (refine Below.drew ?_) | (refine below_drewN ?_ _) | (refine Below.trans ?_ (Below.mono (by assumption) (by first | omega | (simp; done) | (simp; omega))))))) (by first | omega | (simp; done) | (simp; omega))) hm hm').mono ?_
    rintro e w4 ⟨A3, c3, A4, c4, B2, rfl, ho3, ho4, _, _, hb4⟩
    have hz4 := hb4.size; try simp at hz4
    replace BK0 := BK0.keep hb4; replace hc0 := BK0.cell; replace hf0 := BK0.frozen
    go_wp2_with fail
    refine (impl_DiskOk _ _ _ _ _ _ _ hm hm').mono ?_
    rintro e w5 ⟨rfl, hb5⟩
    have hz5 := hb5.size; try simp at hz5
    replace BK0 := BK0.alloc (.cells #[.slice A3 n c3, .slice A4 n' c4] 27)
    replace BK0 := BK0.keep hb5; replace hc0 := BK0.cell; replace hf0 := BK0.frozen
    have BK1 := (Blk.new w4 _ _).keep hb5; have hc1 := BK1.cell; have hf1 := BK1.frozen
    go_wp2_with fail
    have hz45 : w.heap.size < w5.heap.size := by omega
    replace ho3 := own_below (ho3.alloc (.cells #[.slice A3 n c3, .slice A4 n' c4] 27)) hb5
    replace ho4 := own_below (ho4.alloc (.cells #[.slice A3 n c3, .slice A4 n' c4] 27)) hb5
    go_region_held3 (fun w' => w'.cell? ⟨w.heap.size, 0, none⟩ = some (.slice A n c) ∧ w'.cell? ⟨w.heap.size, 1, none⟩ = some (.slice A' n' c') ∧ w'.cell? ⟨w4.heap.size, 0, none⟩ = some (.slice A3 n c3) ∧ w'.cell? ⟨w4.heap.size, 1, none⟩ = some (.slice A4 n' c4))
      (first | exact ⟨BK0.cell 0, BK0.cell 1, BK1.cell 0, BK1.cell 1⟩ | exact ⟨BK0'.cell 0, BK0'.cell 1, BK1'.cell 0, BK1'.cell 1⟩ | exact ⟨BK0''.cell 0, BK0''.cell 1, BK1''.cell 0, BK1''.cell 1⟩)
      (first
      | (go_at_call 6; refine (laws_toDisk _ _ _ _ _ _ _ _ _ Hn.out Hn'.out (hr.keep (by (repeat (first | exact Below.refl _ _ | assumption | (refine Below.setCell ?_ (by first | omega | (simp; done) | (simp; omega)) _) | (refine Below.alloc ?_ (by first | omega | (simp; done) | (simp; omega)) _) | (refine Below.drew ?_) | (refine below_drewN ?_ _) | (refine Below.trans ?_ (Below.mono (by assumption) (by first | omega | (simp; done) | (simp; omega))))))) (by first | omega | (simp; done) | (simp; omega))) (hr'.keep (by (repeat (first | exact Below.refl _ _ | assumption | (refine Below.setCell ?_ (by first | omega | (simp; done) | (simp; omega)) _) | (refine Below.alloc ?_ (by first | omega | (simp; done) | (simp; omega)) _) | (refine Below.drew ?_) | (refine below_drewN ?_ _) | (refine Below.trans ?_ (Below.mono (by assumption) (by first | omega | (simp; done) | (simp; omega))))))) (by first | omega | (simp; done) | (simp; omega))) hm hm').mono ?_; rintro e w6 ⟨A5, c5, A6, c6, B3, rfl, ho5, ho6, _, _, hb6⟩; have BK0' := BK0.drew.keep hb6; have BK1' := BK1.drew.keep hb6; have hz6 := hb6.size; try simp at hz6)
      | (go_at_call 8; refine (laws_eqDisk _ _ _ _ _ _ _ _ _ _ _ _ xs ys xs ys _ Hn.out Hn'.out Hn.out Hn'.out (Reads.of_own (own_below ho3.drew hb6)) (Reads.of_own (own_below ho4.drew hb6)) (Reads.of_own ho5) (Reads.of_own ho6) hm hm' hm hm').mono ?_; rintro e w7 ⟨rfl, hb7⟩; have BK0'' := BK0'.keep hb7; have BK1'' := BK1'.keep hb7))
    go_wp2
    go_ret
    exact ⟨rfl, by (repeat (first | exact Below.refl _ _ | assumption | (refine Below.setCell ?_ (by first | omega | (simp; done) | (simp; omega)) _) | (refine Below.alloc ?_ (by first | omega | (simp; done) | (simp; omega)) _) | (refine Below.drew ?_) | (refine below_drewN ?_ _) | (refine Below.trans ?_ (Below.mono (by assumption) (by first | omega | (simp; done) | (simp; omega))))))⟩
end Go.Proofs.Ytkcggpmlcbigcaa

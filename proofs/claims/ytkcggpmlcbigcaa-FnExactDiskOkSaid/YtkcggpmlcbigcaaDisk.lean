/- Contracts on Disk: sz, to, eq, and the two DiskOk. -/
import Derived.Test.YtkcggpmlcbigcaaByteS
namespace Go.Proofs.Ytkcggpmlcbigcaa
open Go.RowKit
theorem impl_isDisk (A A' : Option Addr) (n c n' c' : Nat) (w : World) (hm : n ≤ 140737488351232) (hm' : n' ≤ 140737488351232) :
    Calls Try.prog 11 #[.agg #[.slice A n c, .slice A' n' c']] w fun e w' => e = .returned (.bool (decide (n + n' ≤ 40000))) ∧ Below w.heap.size w w' := by
  go_enter Try.func11, Try.ntmps11
  go_wp2
  go_ret
  refine ⟨ret_bool (by simp; omega), ?_⟩
  (repeat (first | exact Below.refl _ _ | assumption | (refine Below.setCell ?_ (by first | omega | (simp; done) | (simp; omega)) _) | (refine Below.alloc ?_ (by first | omega | (simp; done) | (simp; omega)) _) | (refine Below.drew ?_) | (refine below_drewN ?_ _) | (refine Below.trans ?_ (Below.mono (by assumption) (by first | omega | (simp; done) | (simp; omega))))))
theorem impl_DiskOk (A A' : Option Addr) (n c n' c' : Nat) (w : World) (hm : n ≤ 140737488351232) (hm' : n' ≤ 140737488351232) :
    Calls Try.prog 7 #[.agg #[.slice A n c, .slice A' n' c']] w fun e w' => e = .returned (.bool (decide (n + n' ≤ 40000))) ∧ Below w.heap.size w w' := by
  go_enter Try.func7, Try.ntmps7
  go_wp2_with (go_at_call 11; refine (impl_isDisk _ _ _ _ _ _ _ hm hm').mono ?_; rintro e w1 ⟨rfl, hb⟩)
  go_ret
  exact ⟨rfl, by (repeat (first | exact Below.refl _ _ | assumption | (refine Below.setCell ?_ (by first | omega | (simp; done) | (simp; omega)) _) | (refine Below.alloc ?_ (by first | omega | (simp; done) | (simp; omega)) _) | (refine Below.drew ?_) | (refine below_drewN ?_ _) | (refine Below.trans ?_ (Below.mono (by assumption) (by first | omega | (simp; done) | (simp; omega))))))⟩
theorem spec_DiskOk (A A' : Option Addr) (n c n' c' : Nat) (w : World) (hm : n ≤ 140737488351232) (hm' : n' ≤ 140737488351232) :
    Calls Try.prog 5 #[.agg #[.slice A n c, .slice A' n' c']] w fun e w' => e = .returned (.bool (decide (n + n' ≤ 40000))) ∧ Below w.heap.size w w' := by
  by_cases h : (n : Int) ≤ 40000
  · go_enter Try.func5, Try.ntmps5
    go_wp2
    go_ret
    refine ⟨ret_bool (by simp; omega), ?_⟩
    (repeat (first | exact Below.refl _ _ | assumption | (refine Below.setCell ?_ (by first | omega | (simp; done) | (simp; omega)) _) | (refine Below.alloc ?_ (by first | omega | (simp; done) | (simp; omega)) _) | (refine Below.drew ?_) | (refine below_drewN ?_ _) | (refine Below.trans ?_ (Below.mono (by assumption) (by first | omega | (simp; done) | (simp; omega))))))
  · have hd : decide ((n : Int) ≤ 40000) = false := by simpa using h
    go_enter Try.func5, Try.ntmps5
    go_wp2
    go_ret
    refine ⟨ret_bool (by simp; omega), ?_⟩
    (repeat (first | exact Below.refl _ _ | assumption | (refine Below.setCell ?_ (by first | omega | (simp; done) | (simp; omega)) _) | (refine Below.alloc ?_ (by first | omega | (simp; done) | (simp; omega)) _) | (refine Below.drew ?_) | (refine below_drewN ?_ _) | (refine Below.trans ?_ (Below.mono (by assumption) (by first | omega | (simp; done) | (simp; omega))))))
set_option maxHeartbeats 400000 in
theorem laws_szDisk (A A' : Option Addr) (n c n' c' : Nat) (left : Int) (w : World) (hm : n ≤ 9223372036854775807) (hm' : n' ≤ 9223372036854775807) (h1 : -1 ≤ left) (h2 : left ≤ 1048576) :
    Calls Try.prog 4 #[.agg #[.slice A n c, .slice A' n' c'], .int .i64 left] w fun e w' => e = .returned (.int .i64 (leftOf left (n + n'))) ∧ Below w.heap.size w w' := by
  go_enter Try.func4, Try.ntmps4
  go_wp2_with (go_at_call 9; refine (laws_szByteS _ _ _ _ _ (by assumption) (by first | assumption | exact (leftOf_bd h2).1) (by first | assumption | exact (leftOf_bd h2).2)).mono ?_; rintro e w' ⟨rfl, rfl⟩)
  · have h : leftOf left n < 0 := by assumption
    go_ret
    exact ⟨ret_int (leftOf_neg h).symm, by (repeat (first | exact Below.refl _ _ | assumption | (refine Below.setCell ?_ (by first | omega | (simp; done) | (simp; omega)) _) | (refine Below.alloc ?_ (by first | omega | (simp; done) | (simp; omega)) _) | (refine Below.drew ?_) | (refine below_drewN ?_ _) | (refine Below.trans ?_ (Below.mono (by assumption) (by first | omega | (simp; done) | (simp; omega))))))⟩
  · have h : 0 ≤ leftOf left n := by assumption
    have h' : leftOf (leftOf left n) n' < 0 := by assumption
    go_ret
    exact ⟨ret_int (by rw [leftOf_add h] at h'; rw [← Nat.add_zero (n + n'), leftOf_neg h']), by (repeat (first | exact Below.refl _ _ | assumption | (refine Below.setCell ?_ (by first | omega | (simp; done) | (simp; omega)) _) | (refine Below.alloc ?_ (by first | omega | (simp; done) | (simp; omega)) _) | (refine Below.drew ?_) | (refine below_drewN ?_ _) | (refine Below.trans ?_ (Below.mono (by assumption) (by first | omega | (simp; done) | (simp; omega))))))⟩
  · have h : 0 ≤ leftOf left n := by assumption
    go_ret
    exact ⟨ret_int (leftOf_add h), by (repeat (first | exact Below.refl _ _ | assumption | (refine Below.setCell ?_ (by first | omega | (simp; done) | (simp; omega)) _) | (refine Below.alloc ?_ (by first | omega | (simp; done) | (simp; omega)) _) | (refine Below.drew ?_) | (refine below_drewN ?_ _) | (refine Below.trans ?_ (Below.mono (by assumption) (by first | omega | (simp; done) | (simp; omega))))))⟩
set_option maxHeartbeats 400000 in
theorem laws_toDisk (A A' : Option Addr) (n c n' c' : Nat) (xs ys : List UInt8) (w : World) (hn : xs.length = n) (hn' : ys.length = n') (hr : Reads w w.heap.size A (xs.map byteV)) (hr' : Reads w w.heap.size A' (ys.map byteV))
    (hm : n ≤ 140737488351232) (hm' : n' ≤ 140737488351232) :
    Calls Try.prog 6 #[.agg #[.slice A n c, .slice A' n' c']] w fun e w' => ∃ A1 c1 A2 c2 B1, e = .returned (.agg #[.slice A1 n c1, .slice A2 n' c2]) ∧ w'.ownsRow w.heap.size 5 1 (.slice A1 n c1) n (xs.map byteV) ∧
      w'.ownsRow B1 5 1 (.slice A2 n' c2) n' (ys.map byteV) ∧ (∀ g, (Value.slice A1 n c1).ownBlock = some g → g < B1) ∧ w.heap.size ≤ B1 ∧ Below w.heap.size w w' := by
  have Hn := Lib.hid hn
  have Hn' := Lib.hid hn'
  clear hn hn'
  go_enter Try.func6, Try.ntmps6
  go_wp2_with fail
  refine (laws_toByteS _ _ _ _ _ Hn.out (hr.keep (by (repeat (first | exact Below.refl _ _ | assumption | (refine Below.setCell ?_ (by first | omega | (simp; done) | (simp; omega)) _) | (refine Below.alloc ?_ (by first | omega | (simp; done) | (simp; omega)) _) | (refine Below.drew ?_) | (refine below_drewN ?_ _) | (refine Below.trans ?_ (Below.mono (by assumption) (by first | omega | (simp; done) | (simp; omega))))))) (by simp; omega)) hm).mono ?_
  rintro e w1 ⟨A1, c1, rfl, ho1, hb1⟩
  have hz1 := hb1.size
  simp only [World.size_alloc] at hz1
  obtain ⟨hc10, hf10⟩ := box hb1 (w.heap.size) (by simp; omega)
  obtain ⟨hc11, hf11⟩ := box hb1 (w.heap.size + 1) (by simp)
  obtain ⟨hc12, hf12⟩ := box hb1 (w.heap.size + 1 + 1) (by simp)
  go_wp2_with fail
  refine (laws_toByteS _ _ _ _ _ Hn'.out (hr'.keep (by (repeat (first | exact Below.refl _ _ | assumption | (refine Below.setCell ?_ (by first | omega | (simp; done) | (simp; omega)) _) | (refine Below.alloc ?_ (by first | omega | (simp; done) | (simp; omega)) _) | (refine Below.drew ?_) | (refine below_drewN ?_ _) | (refine Below.trans ?_ (Below.mono (by assumption) (by first | omega | (simp; done) | (simp; omega))))))) (by simp; omega)) hm').mono ?_
  rintro e w2 ⟨A2, c2, rfl, ho2, hb2⟩
  have ho1' := own_below (own_setCell ho1 (a := ⟨w.heap.size + 1 + 1, 0, none⟩) (by simp) (.slice A1 n c1)) hb2
  have hz2 := hb2.size
  simp at hz2
  obtain ⟨hc21, hf21⟩ := box hb2 (w.heap.size + 1) (by simp; omega)
  obtain ⟨hc22, hf22⟩ := box hb2 (w.heap.size + 1 + 1) (by simp; omega)
  go_wp2
  refine bodyPost_ret (v := .agg #[.slice A1 n c1, .slice A2 n' c2]) (by simp [results, Try.results6, go_sem, hc21, hf21, hc11, hf11, hc22, hf22, hc12, hf12]) rfl ?_
  refine ⟨A1, c1, A2, c2, _, rfl, ?_, ?_, own_lt ho1, ?_, ?_⟩
  · exact own_base (own_setCell (own_setCell (own_setCell ho1' (by simp) _) (by simp) _) (by simp) _) (by simp; omega)
  · exact own_setCell (own_setCell (own_setCell (own_base ho2 (by simp)) (by simp; omega) _) (by simp; omega) _) (by simp; omega) _
  · omega
  · (repeat (first | exact Below.refl _ _ | assumption | (refine Below.setCell ?_ (by first | omega | (simp; done) | (simp; omega)) _) | (refine Below.alloc ?_ (by first | omega | (simp; done) | (simp; omega)) _) | (refine Below.drew ?_) | (refine below_drewN ?_ _) | (refine Below.trans ?_ (Below.mono (by assumption) (by first | omega | (simp; done) | (simp; omega))))))
set_option maxHeartbeats 400000 in
theorem laws_eqDisk (A1 A2 A3 A4 : Option Addr) (n1 c1 n2 c2 n3 c3 n4 c4 : Nat) (x1 x2 x3 x4 : List UInt8) (w : World) (hn1 : x1.length = n1) (hn2 : x2.length = n2) (hn3 : x3.length = n3) (hn4 : x4.length = n4)
    (hr1 : Reads w w.heap.size A1 (x1.map byteV)) (hr2 : Reads w w.heap.size A2 (x2.map byteV)) (hr3 : Reads w w.heap.size A3 (x3.map byteV)) (hr4 : Reads w w.heap.size A4 (x4.map byteV))
    (hm1 : n1 ≤ 140737488351232) (hm2 : n2 ≤ 140737488351232) (hm3 : n3 ≤ 140737488351232) (hm4 : n4 ≤ 140737488351232) :
    Calls Try.prog 8 #[.agg #[.slice A1 n1 c1, .slice A2 n2 c2], .agg #[.slice A3 n3 c3, .slice A4 n4 c4]] w fun e w' => e = .returned (.bool (decide (x1 = x3) && decide (x2 = x4))) ∧ Below w.heap.size w w' := by
  have Hn1 := Lib.hid hn1
  have Hn2 := Lib.hid hn2
  have Hn3 := Lib.hid hn3
  have Hn4 := Lib.hid hn4
  clear hn1 hn2 hn3 hn4
  go_enter Try.func8, Try.ntmps8
  go_wp2_with fail
  refine (laws_eqByteS _ _ _ _ _ _ _ _ _ Hn1.out Hn3.out (hr1.keep (by (repeat (first | exact Below.refl _ _ | assumption | (refine Below.setCell ?_ (by first | omega | (simp; done) | (simp; omega)) _) | (refine Below.alloc ?_ (by first | omega | (simp; done) | (simp; omega)) _) | (refine Below.drew ?_) | (refine below_drewN ?_ _) | (refine Below.trans ?_ (Below.mono (by assumption) (by first | omega | (simp; done) | (simp; omega))))))) (by simp; omega)) (hr3.keep (by (repeat (first | exact Below.refl _ _ | assumption | (refine Below.setCell ?_ (by first | omega | (simp; done) | (simp; omega)) _) | (refine Below.alloc ?_ (by first | omega | (simp; done) | (simp; omega)) _) | (refine Below.drew ?_) | (refine below_drewN ?_ _) | (refine Below.trans ?_ (Below.mono (by assumption) (by first | omega | (simp; done) | (simp; omega))))))) (by simp; omega)) hm1 hm3).mono ?_
  rintro e w1 ⟨rfl, m1, rfl⟩
  by_cases h13 : decide (x1 = x3) = true
  · go_wp2_with fail
    refine (laws_eqByteS _ _ _ _ _ _ _ _ _ Hn2.out Hn4.out (hr2.keep (by (repeat (first | exact Below.refl _ _ | assumption | (refine Below.setCell ?_ (by first | omega | (simp; done) | (simp; omega)) _) | (refine Below.alloc ?_ (by first | omega | (simp; done) | (simp; omega)) _) | (refine Below.drew ?_) | (refine below_drewN ?_ _) | (refine Below.trans ?_ (Below.mono (by assumption) (by first | omega | (simp; done) | (simp; omega))))))) (by simp; omega)) (hr4.keep (by (repeat (first | exact Below.refl _ _ | assumption | (refine Below.setCell ?_ (by first | omega | (simp; done) | (simp; omega)) _) | (refine Below.alloc ?_ (by first | omega | (simp; done) | (simp; omega)) _) | (refine Below.drew ?_) | (refine below_drewN ?_ _) | (refine Below.trans ?_ (Below.mono (by assumption) (by first | omega | (simp; done) | (simp; omega))))))) (by simp; omega)) hm2 hm4).mono ?_
    rintro e w2 ⟨rfl, m2, rfl⟩
    by_cases h24 : decide (x2 = x4) = true
    · go_wp2
      go_ret
      exact ⟨ret_bool (by simp_all), by (repeat (first | exact Below.refl _ _ | assumption | (refine Below.setCell ?_ (by first | omega | (simp; done) | (simp; omega)) _) | (refine Below.alloc ?_ (by first | omega | (simp; done) | (simp; omega)) _) | (refine Below.drew ?_) | (refine below_drewN ?_ _) | (refine Below.trans ?_ (Below.mono (by assumption) (by first | omega | (simp; done) | (simp; omega))))))⟩
    · simp only [Bool.not_eq_true] at h24
      go_wp2
      go_ret
      exact ⟨ret_bool (by simp_all), by (repeat (first | exact Below.refl _ _ | assumption | (refine Below.setCell ?_ (by first | omega | (simp; done) | (simp; omega)) _) | (refine Below.alloc ?_ (by first | omega | (simp; done) | (simp; omega)) _) | (refine Below.drew ?_) | (refine below_drewN ?_ _) | (refine Below.trans ?_ (Below.mono (by assumption) (by first | omega | (simp; done) | (simp; omega))))))⟩
  · simp only [Bool.not_eq_true] at h13
    go_wp2
    go_ret
    exact ⟨ret_bool (by simp_all), by (repeat (first | exact Below.refl _ _ | assumption | (refine Below.setCell ?_ (by first | omega | (simp; done) | (simp; omega)) _) | (refine Below.alloc ?_ (by first | omega | (simp; done) | (simp; omega)) _) | (refine Below.drew ?_) | (refine below_drewN ?_ _) | (refine Below.trans ?_ (Below.mono (by assumption) (by first | omega | (simp; done) | (simp; omega))))))⟩
end Go.Proofs.Ytkcggpmlcbigcaa

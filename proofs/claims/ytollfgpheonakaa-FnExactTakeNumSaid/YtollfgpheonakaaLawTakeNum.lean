/- FnExactTakeNum: the walk of the law. -/
import Derived.Test.YtollfgpheonakaaTakeAll
namespace Go.Proofs.Ytollfgpheonakaa
open Go.RowKit
set_option maxHeartbeats 1600000 in
theorem law_FnExactTakeNum (A : Option Addr) (c : Nat) (b : List UInt8) (i : Int) (w : World) (hr : Reads w w.heap.size A (b.map byteV)) (hm : b.length ≤ 9223372036854775807) :
    Calls Try.prog 4 #[.slice A b.length c, .int .i64 i] w fun e w' => e = .returned (.bool true) ∧ Below w.heap.size w w' := by
  by_cases hs : 1048576 < b.length
  · go_enter Try.func4, Try.ntmps4
    go_wp2
    go_ret
    exact ⟨rfl, by (repeat (first | (with_reducible exact Below.refl _ _) | (with_reducible assumption) | ((with_reducible refine Below.setCell ?_ ?_ _); rotate_left; focus (first | omega | (simp; done) | (simp; omega))) | ((with_reducible refine Below.alloc ?_ ?_ _); rotate_left; focus (first | omega | (simp; done) | (simp; omega))) | (with_reducible refine Below.drew ?_) | (with_reducible refine below_drewN ?_ _) | (refine Below.trans ?_ (Below.mono (by with_reducible assumption) (by (first | omega | (simp; done) | (simp; omega)))))))⟩
  · have hm1 : b.length ≤ 1048576 := by omega
    clear hm
    go_enter Try.func4, Try.ntmps4
    go_wp2_with fail
    refine (laws_toByteS _ _ _ _ hr hm1).mono ?_
    rintro e w1 ⟨A1, c1, rfl, ho1, hb1⟩
    have hz1 := hb1.size; try simp at hz1
    go_wp2_with fail
    refine (spec_TakeNum _ _ _ _ _ (Reads.of_own ho1) hm1 (own_cap ho1)).mono ?_
    rintro e w2 ⟨rfl, hb2⟩
    have hz2 := hb2.size; try simp at hz2
    go_wp2_with fail
    refine (laws_toByteS _ _ _ _ (hr.keep (by (repeat (first | (with_reducible exact Below.refl _ _) | (with_reducible assumption) | ((with_reducible refine Below.setCell ?_ ?_ _); rotate_left; focus (first | omega | (simp; done) | (simp; omega))) | ((with_reducible refine Below.alloc ?_ ?_ _); rotate_left; focus (first | omega | (simp; done) | (simp; omega))) | (with_reducible refine Below.drew ?_) | (with_reducible refine below_drewN ?_ _) | (refine Below.trans ?_ (Below.mono (by with_reducible assumption) (by (first | omega | (simp; done) | (simp; omega)))))))) (by first | omega | (simp; done) | (simp; omega))) hm1).mono ?_
    rintro e w3 ⟨A3, c3, rfl, ho3, hb3⟩
    have hz3 := hb3.size; try simp at hz3
    go_wp2_with fail
    refine (impl_TakeNum _ _ _ _ _ (Reads.of_own ho3) hm1).mono ?_
    rintro e w4 ⟨rfl, rfl⟩
    go_wp2_with fail
    refine (laws_toByteS _ _ _ _ (hr.keep (by (repeat (first | (with_reducible exact Below.refl _ _) | (with_reducible assumption) | ((with_reducible refine Below.setCell ?_ ?_ _); rotate_left; focus (first | omega | (simp; done) | (simp; omega))) | ((with_reducible refine Below.alloc ?_ ?_ _); rotate_left; focus (first | omega | (simp; done) | (simp; omega))) | (with_reducible refine Below.drew ?_) | (with_reducible refine below_drewN ?_ _) | (refine Below.trans ?_ (Below.mono (by with_reducible assumption) (by (first | omega | (simp; done) | (simp; omega)))))))) (by first | omega | (simp; done) | (simp; omega))) hm1).mono ?_
    rintro e w5 ⟨A5, c5, rfl, ho5, hb5⟩
    have hz5 := hb5.size; try simp at hz5
    go_wp2_with fail
    refine (laws_eqByteS_b _ _ _ _ _ _ _ (Reads.of_own (own_below ho3 hb5)) (Reads.of_own ho5) (by omega) (by omega)).mono ?_
    rintro e w6 ⟨rfl, hb6⟩
    go_wp2
    go_ret
    exact ⟨rfl, by (repeat (first | (with_reducible exact Below.refl _ _) | (with_reducible assumption) | ((with_reducible refine Below.setCell ?_ ?_ _); rotate_left; focus (first | omega | (simp; done) | (simp; omega))) | ((with_reducible refine Below.alloc ?_ ?_ _); rotate_left; focus (first | omega | (simp; done) | (simp; omega))) | (with_reducible refine Below.drew ?_) | (with_reducible refine below_drewN ?_ _) | (refine Below.trans ?_ (Below.mono (by with_reducible assumption) (by (first | omega | (simp; done) | (simp; omega)))))))⟩
end Go.Proofs.Ytollfgpheonakaa

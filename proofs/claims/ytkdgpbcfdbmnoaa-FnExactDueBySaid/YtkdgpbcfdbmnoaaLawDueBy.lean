/- FnExactDueBy: the walk of the law. -/
import Derived.Test.YtkdgpbcfdbmnoaaImplTimerQ
import Derived.Test.YtkdgpbcfdbmnoaaSpecTimerQ
namespace Go.Proofs.Ytkdgpbcfdbmnoaa
open Go.RowKit
set_option maxHeartbeats 1600000 in
theorem law_FnExactDueBy (aNow : Int) (aATimers : Option Addr) (acTimers : Nat) (aTimers : List Timer) (x : Int) (w : World) (hraTimers : Reads w w.heap.size aATimers (aTimers.flatMap Timer.cells)) (hm0Timers : aTimers.length ≤ 9223372036854775807) :
    Calls Try.prog 6 #[.agg #[.int .i64 aNow, .slice aATimers aTimers.length acTimers], .int .i64 x] w fun e w' => e = .returned (.bool true) ∧ Below w.heap.size w w' := by
  go_enter Try.func6, Try.ntmps6
  go_wp2_with fail
  refine (laws_szClock _ _ _ _ _ _ hm0Timers (by first | omega | (simp; done) | (simp; omega)) (by first | omega | (simp; done) | (simp; omega))).mono ?_
  rintro e w1 ⟨rfl, hb1⟩
  have hz1 := hb1.size; try simp at hz1
  have BK0 := (Blk.new w _ _).keep hb1; have hc0 := BK0.cell; have hf0 := BK0.frozen
  by_cases hs : leftOf 1048576 (aTimers.length) < 0
  · go_wp2
    go_ret
    exact ⟨rfl, by (repeat (first | (with_reducible exact Below.refl _ _) | (with_reducible assumption) | ((with_reducible refine Below.setCell ?_ ?_ _); rotate_left; focus (first | omega | (simp; done) | (simp; omega))) | ((with_reducible refine Below.alloc ?_ ?_ _); rotate_left; focus (first | omega | (simp; done) | (simp; omega))) | (with_reducible refine Below.drew ?_) | (with_reducible refine below_drewN ?_ _) | (refine Below.trans ?_ (Below.mono (by with_reducible assumption) (by (first | omega | (simp; done) | (simp; omega)))))))⟩
  · have hs' := leftOf_le (Int.not_lt.1 hs)
    have hmTimers : aTimers.length ≤ 1048576 := by omega
    clear hs' hm0Timers
    go_wp2_with fail
    refine (laws_toClock _ _ _ _ _ (hraTimers.keep (by (repeat (first | (with_reducible exact Below.refl _ _) | (with_reducible assumption) | ((with_reducible refine Below.setCell ?_ ?_ _); rotate_left; focus (first | omega | (simp; done) | (simp; omega))) | ((with_reducible refine Below.alloc ?_ ?_ _); rotate_left; focus (first | omega | (simp; done) | (simp; omega))) | (with_reducible refine Below.drew ?_) | (with_reducible refine below_drewN ?_ _) | (refine Below.trans ?_ (Below.mono (by with_reducible assumption) (by (first | omega | (simp; done) | (simp; omega)))))))) (by first | omega | (simp; done) | (simp; omega))) hmTimers).mono ?_
    rintro e w2 ⟨A2_Timers, c2_Timers, rfl, ho2_Timers, hb2⟩
    have hz2 := hb2.size; try simp at hz2
    replace BK0 := BK0.keep hb2; replace hc0 := BK0.cell; replace hf0 := BK0.frozen
    go_wp2_with fail
    refine (spec_DueBy aNow A2_Timers c2_Timers aTimers x _ (Reads.of_own ho2_Timers) (by omega)).mono ?_
    rintro e w3 ⟨rfl, hb3⟩
    have hz3 := hb3.size; try simp at hz3
    replace BK0 := BK0.keep hb3; replace hc0 := BK0.cell; replace hf0 := BK0.frozen
    go_wp2_with fail
    refine (laws_toClock _ _ _ _ _ (hraTimers.keep (by (repeat (first | (with_reducible exact Below.refl _ _) | (with_reducible assumption) | ((with_reducible refine Below.setCell ?_ ?_ _); rotate_left; focus (first | omega | (simp; done) | (simp; omega))) | ((with_reducible refine Below.alloc ?_ ?_ _); rotate_left; focus (first | omega | (simp; done) | (simp; omega))) | (with_reducible refine Below.drew ?_) | (with_reducible refine below_drewN ?_ _) | (refine Below.trans ?_ (Below.mono (by with_reducible assumption) (by (first | omega | (simp; done) | (simp; omega)))))))) (by first | omega | (simp; done) | (simp; omega))) hmTimers).mono ?_
    rintro e w4 ⟨A4_Timers, c4_Timers, rfl, ho4_Timers, hb4⟩
    have hz4 := hb4.size; try simp at hz4
    replace BK0 := BK0.keep hb4; replace hc0 := BK0.cell; replace hf0 := BK0.frozen
    replace BK0 := BK0.alloc (.cells #[.int .i64 aNow, .slice A4_Timers aTimers.length c4_Timers] 29)
    go_wp2_with fail
    refine (impl_DueBy aNow A4_Timers c4_Timers aTimers x _ (Reads.of_own (ho4_Timers.alloc _)) (by omega) (own_cap ho4_Timers)).mono ?_
    rintro e w5 ⟨rfl, hb5⟩
    have hz5 := hb5.size; try simp at hz5
    replace BK0 := BK0.keep hb5; replace hc0 := BK0.cell; replace hf0 := BK0.frozen
    have BK1 := (Blk.new w4 _ _).keep hb5; have hc1 := BK1.cell; have hf1 := BK1.frozen
    go_wp2_with fail
    replace ho4_Timers := own_below (ho4_Timers.alloc (.cells #[.int .i64 aNow, .slice A4_Timers aTimers.length c4_Timers] 29)) hb5
    have hz45 : w.heap.size < w5.heap.size := by omega
    go_region_held3 (fun w' => w'.cell? ⟨w.heap.size, 0, none⟩ = some (.int .i64 aNow) ∧ w'.cell? ⟨w.heap.size, 1, none⟩ = some (.slice aATimers aTimers.length acTimers) ∧ w'.cell? ⟨w4.heap.size, 0, none⟩ = some (.int .i64 aNow) ∧ w'.cell? ⟨w4.heap.size, 1, none⟩ = some (.slice A4_Timers aTimers.length c4_Timers))
      (first | exact ⟨BK0.cell 0, BK0.cell 1, BK1.cell 0, BK1.cell 1⟩ | exact ⟨BK0'.cell 0, BK0'.cell 1, BK1'.cell 0, BK1'.cell 1⟩ | exact ⟨BK0''.cell 0, BK0''.cell 1, BK1''.cell 0, BK1''.cell 1⟩)
      (first
      | (go_at_call 11; refine (laws_toClock _ _ _ _ _ (hraTimers.keep (by (repeat (first | (with_reducible exact Below.refl _ _) | (with_reducible assumption) | ((with_reducible refine Below.setCell ?_ ?_ _); rotate_left; focus (first | omega | (simp; done) | (simp; omega))) | ((with_reducible refine Below.alloc ?_ ?_ _); rotate_left; focus (first | omega | (simp; done) | (simp; omega))) | (with_reducible refine Below.drew ?_) | (with_reducible refine below_drewN ?_ _) | (refine Below.trans ?_ (Below.mono (by with_reducible assumption) (by (first | omega | (simp; done) | (simp; omega)))))))) (by first | omega | (simp; done) | (simp; omega))) hmTimers).mono ?_; rintro e w6 ⟨A6_Timers, c6_Timers, rfl, ho6_Timers, hb6⟩; have BK0' := BK0.drew.keep hb6; have BK1' := BK1.drew.keep hb6; have hz6 := hb6.size; try simp at hz6)
      | (go_at_call 13; refine (laws_eqClock _ _ _ _ _ _ _ _ _ (Reads.of_own (own_below ho4_Timers.drew hb6)) (Reads.of_own ho6_Timers) (by omega) (by omega)).mono ?_; rintro e w7 ⟨rfl, hb7⟩; have BK0'' := BK0'.keep hb7; have BK1'' := BK1'.keep hb7))
    go_wp2
    go_ret
    exact ⟨rfl, by (repeat (first | (with_reducible exact Below.refl _ _) | (with_reducible assumption) | ((with_reducible refine Below.setCell ?_ ?_ _); rotate_left; focus (first | omega | (simp; done) | (simp; omega))) | ((with_reducible refine Below.alloc ?_ ?_ _); rotate_left; focus (first | omega | (simp; done) | (simp; omega))) | (with_reducible refine Below.drew ?_) | (with_reducible refine below_drewN ?_ _) | (refine Below.trans ?_ (Below.mono (by with_reducible assumption) (by (first | omega | (simp; done) | (simp; omega)))))))⟩
end Go.Proofs.Ytkdgpbcfdbmnoaa

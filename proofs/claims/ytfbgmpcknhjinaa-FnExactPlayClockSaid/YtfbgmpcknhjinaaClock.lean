/- Contracts of the helpers on Clock (printed by wip/gen/gen.py). -/
import Derived.Test.YtfbgmpcknhjinaaTimer
set_option linter.unusedSimpArgs false
set_option linter.unusedVariables false
set_option maxRecDepth 20000
namespace Go.Proofs.Ytfbgmpcknhjinaa
open Go.RowKit
set_option maxHeartbeats 400000 in
theorem laws_szClock (aNow : Int) (aATimers : Option Addr) (acTimers : Nat) (aTimers : List Timer) (left : Int) (w : World) (hmaTimers : aTimers.length ≤ 9223372036854775807)  (h1 : -1 ≤ left) (h2 : left ≤ 1048576) :
    Calls Try.prog 7 #[.agg #[.int .i64 aNow, .slice aATimers aTimers.length acTimers], .int .i64 left] w fun e w' => e = .returned (.int .i64 (leftOf left (aTimers.length))) ∧ Below w.heap.size w w' := by
  go_enter Try.func7, Try.ntmps7
  go_wp2_with (first
  | (go_at_call 32; refine (laws_szTimerS _ _ _ _ _ (by assumption) (by first | assumption | exact (leftOf_bd h2).1) (by first | assumption | exact (leftOf_bd h2).2)).mono ?_; rintro e w' ⟨rfl, rfl⟩))
  · have h : leftOf left (aTimers.length) < 0 := by assumption
    go_ret
    exact ⟨ret_int (by have := leftOf_neg (m := 0) h; rw [Nat.add_zero] at this; exact this.symm), by (repeat (first | (with_reducible exact Below.refl _ _) | (with_reducible assumption) | ((with_reducible refine Below.setCell ?_ ?_ _); rotate_left; focus (first | omega | (simp; done) | (simp; omega))) | ((with_reducible refine Below.alloc ?_ ?_ _); rotate_left; focus (first | omega | (simp; done) | (simp; omega))) | (with_reducible refine Below.drew ?_) | (with_reducible refine below_drewN ?_ _) | (refine Below.trans ?_ (Below.mono (by with_reducible assumption) (by (first | omega | (simp; done) | (simp; omega)))))))⟩
  · go_ret
    exact ⟨rfl, by (repeat (first | (with_reducible exact Below.refl _ _) | (with_reducible assumption) | ((with_reducible refine Below.setCell ?_ ?_ _); rotate_left; focus (first | omega | (simp; done) | (simp; omega))) | ((with_reducible refine Below.alloc ?_ ?_ _); rotate_left; focus (first | omega | (simp; done) | (simp; omega))) | (with_reducible refine Below.drew ?_) | (with_reducible refine below_drewN ?_ _) | (refine Below.trans ?_ (Below.mono (by with_reducible assumption) (by (first | omega | (simp; done) | (simp; omega)))))))⟩
set_option maxHeartbeats 800000 in
theorem laws_toClock (aNow : Int) (aATimers : Option Addr) (acTimers : Nat) (aTimers : List Timer) (w : World) (hraTimers : Reads w w.heap.size aATimers (aTimers.flatMap Timer.cells)) (hmaTimers : aTimers.length ≤ 1048576) :
    Calls Try.prog 9 #[.agg #[.int .i64 aNow, .slice aATimers aTimers.length acTimers]] w fun e w' => ∃ A0 c0, e = .returned (.agg #[.int .i64 aNow, .slice A0 aTimers.length c0]) ∧ w'.ownsRow w.heap.size 62 2 (.slice A0 aTimers.length c0) aTimers.length (aTimers.flatMap Timer.cells) ∧ Below w.heap.size w w' := by
  go_enter Try.func9, Try.ntmps9
  go_wp2_with fail
  refine (laws_toTimerS _ _ _ _ (hraTimers.keep (by (repeat (first | (with_reducible exact Below.refl _ _) | (with_reducible assumption) | ((with_reducible refine Below.setCell ?_ ?_ _); rotate_left; focus (first | omega | (simp; done) | (simp; omega))) | ((with_reducible refine Below.alloc ?_ ?_ _); rotate_left; focus (first | omega | (simp; done) | (simp; omega))) | (with_reducible refine Below.drew ?_) | (with_reducible refine below_drewN ?_ _) | (refine Below.trans ?_ (Below.mono (by with_reducible assumption) (by (first | omega | (simp; done) | (simp; omega)))))))) (by first | omega | (simp; done) | (simp; omega))) hmaTimers).mono ?_
  rintro e w1 ⟨A0, c0, rfl, ho0, hb1⟩
  have hz1 := hb1.size
  simp at hz1
  obtain ⟨hc10, hf10⟩ := box hb1 (w.heap.size) (by first | omega | (simp; done) | (simp; omega))
  obtain ⟨hc11, hf11⟩ := box hb1 (w.heap.size + 1) (by first | omega | (simp; done) | (simp; omega))
  obtain ⟨hc12, hf12⟩ := box hb1 (w.heap.size + 1 + 1) (by first | omega | (simp; done) | (simp; omega))
  go_wp2
  refine bodyPost_ret (v := .agg #[.int .i64 aNow, .slice A0 aTimers.length c0]) (by simp [results, Try.results9, go_sem, hc11, hf11, hc12, hf12]) rfl ?_
  refine ⟨A0, c0, rfl, ?_, ?_⟩
  · refine own_base (base := w.heap.size + 1 + 1 + 1) ?_ (by omega)
    (repeat (first | (with_reducible exact ho0) | (refine own_base (by with_reducible exact ho0) (by first | omega | (simp; done) | (simp; omega))) | ((with_reducible refine own_setCell ?_ ?_ _); rotate_left; focus (first | omega | (simp; done) | (simp; omega)))))
  · (repeat (first | (with_reducible exact Below.refl _ _) | (with_reducible assumption) | ((with_reducible refine Below.setCell ?_ ?_ _); rotate_left; focus (first | omega | (simp; done) | (simp; omega))) | ((with_reducible refine Below.alloc ?_ ?_ _); rotate_left; focus (first | omega | (simp; done) | (simp; omega))) | (with_reducible refine Below.drew ?_) | (with_reducible refine below_drewN ?_ _) | (refine Below.trans ?_ (Below.mono (by with_reducible assumption) (by (first | omega | (simp; done) | (simp; omega)))))))
set_option maxHeartbeats 800000 in
theorem laws_eqClock (aNow : Int) (aATimers : Option Addr) (acTimers : Nat) (aTimers : List Timer) (bNow : Int) (bATimers : Option Addr) (bcTimers : Nat) (bTimers : List Timer) (w : World) (hraTimers : Reads w w.heap.size aATimers (aTimers.flatMap Timer.cells)) (hrbTimers : Reads w w.heap.size bATimers (bTimers.flatMap Timer.cells)) (hmaTimers : aTimers.length ≤ 140737488351232) (hmbTimers : bTimers.length ≤ 140737488351232) :
    Calls Try.prog 11 #[.agg #[.int .i64 aNow, .slice aATimers aTimers.length acTimers], .agg #[.int .i64 bNow, .slice bATimers bTimers.length bcTimers]] w fun e w' => e = .returned (.bool (decide (aNow = bNow ∧ aTimers = bTimers))) ∧ Below w.heap.size w w' := by
  go_enter Try.func11, Try.ntmps11
  go_wp2_with (first
  | (go_at_call 40; refine (laws_eqTimerS _ _ _ _ _ _ _ (by first | exact hraTimers.keep (by (repeat (first | (with_reducible exact Below.refl _ _) | (with_reducible assumption) | ((with_reducible refine Below.setCell ?_ ?_ _); rotate_left; focus (first | omega | (simp; done) | (simp; omega))) | ((with_reducible refine Below.alloc ?_ ?_ _); rotate_left; focus (first | omega | (simp; done) | (simp; omega))) | (with_reducible refine Below.drew ?_) | (with_reducible refine below_drewN ?_ _) | (refine Below.trans ?_ (Below.mono (by with_reducible assumption) (by (first | omega | (simp; done) | (simp; omega)))))))) (by first | omega | (simp; done) | (simp; omega))) (by first | exact hrbTimers.keep (by (repeat (first | (with_reducible exact Below.refl _ _) | (with_reducible assumption) | ((with_reducible refine Below.setCell ?_ ?_ _); rotate_left; focus (first | omega | (simp; done) | (simp; omega))) | ((with_reducible refine Below.alloc ?_ ?_ _); rotate_left; focus (first | omega | (simp; done) | (simp; omega))) | (with_reducible refine Below.drew ?_) | (with_reducible refine below_drewN ?_ _) | (refine Below.trans ?_ (Below.mono (by with_reducible assumption) (by (first | omega | (simp; done) | (simp; omega)))))))) (by first | omega | (simp; done) | (simp; omega))) (by assumption) (by assumption)).mono ?_; rintro e w1 ⟨rfl, hb1⟩; have hz1 := hb1.size; (try simp at hz1); obtain ⟨hc10, hf10⟩ := box hb1 (w.heap.size) (by first | omega | (simp; done) | (simp; omega)); obtain ⟨hc11, hf11⟩ := box hb1 (w.heap.size + 1) (by first | omega | (simp; done) | (simp; omega))))
  all_goals (go_ret; exact ⟨ret_bool (by simp_all), by (repeat (first | (with_reducible exact Below.refl _ _) | (with_reducible assumption) | ((with_reducible refine Below.setCell ?_ ?_ _); rotate_left; focus (first | omega | (simp; done) | (simp; omega))) | ((with_reducible refine Below.alloc ?_ ?_ _); rotate_left; focus (first | omega | (simp; done) | (simp; omega))) | (with_reducible refine Below.drew ?_) | (with_reducible refine below_drewN ?_ _) | (refine Below.trans ?_ (Below.mono (by with_reducible assumption) (by (first | omega | (simp; done) | (simp; omega)))))))⟩)
set_option maxHeartbeats 800000 in
theorem laws_markClock (aNow : Int) (aATimers : Option Addr) (acTimers nTimers : Nat) (lo0 hi0 k : Nat) (w : World) (csTimers : List Value) (hwTimers : Win w lo0 hi0 62 aATimers csTimers) (hnTimers : csTimers.length = nTimers * 2) (hmTimers : nTimers ≤ 2097152) (hi : hi0 ≤ w.heap.size) (hle0 : lo0 ≤ hi0) (hk : k ≤ 536870912) :
    Calls Try.prog 13 #[.agg #[.int .i64 aNow, .slice aATimers nTimers acTimers], .int .i64 k] w fun e w' => e = .returned (.int .i64 ((k + nTimers * 2 : Nat) : Int)) ∧ Win w' lo0 hi0 62 aATimers (markInts (k) (nTimers * 2)) ∧ Out (InR lo0 hi0) w w' := by
  go_enter Try.func13, Try.ntmps13
  go_wp2_with fail
  have hW0 := hwTimers.below (B := w.heap.size) (w' := w.alloc (.cells #[.int .i64 aNow, .slice aATimers nTimers acTimers] 28)) (by (repeat (first | (with_reducible exact Below.refl _ _) | (with_reducible assumption) | ((with_reducible refine Below.setCell ?_ ?_ _); rotate_left; focus (first | omega | (simp; done) | (simp; omega))) | ((with_reducible refine Below.alloc ?_ ?_ _); rotate_left; focus (first | omega | (simp; done) | (simp; omega))) | (with_reducible refine Below.drew ?_) | (with_reducible refine below_drewN ?_ _) | (refine Below.trans ?_ (Below.mono (by with_reducible assumption) (by (first | omega | (simp; done) | (simp; omega)))))))) (by omega)
  refine (laws_markTimerS _ acTimers lo0 hi0 (k) nTimers csTimers _ hW0 hnTimers (by omega) (by omega)).mono ?_
  rintro e w1 ⟨rfl, hq0, ho0⟩
  go_wp2
  go_ret
  exact ⟨by first | rfl | simp [hnTimers], hq0, (Out.of_below (w := w) ((Below.refl _ _).alloc (Nat.le_refl _) _)).trans ho0⟩
set_option maxHeartbeats 800000 in
theorem laws_heldClock (aNow : Int) (aATimers : Option Addr) (acTimers nTimers : Nat) (k : Nat) (w : World) (hrTimers : Reads w w.heap.size aATimers (markInts (k) (nTimers * 2))) (hmTimers : nTimers ≤ 2097152) (hk : k ≤ 536870912) :
    Calls Try.prog 15 #[.agg #[.int .i64 aNow, .slice aATimers nTimers acTimers], .int .i64 k] w fun e w' => e = .returned (.int .i64 ((k + nTimers * 2 : Nat) : Int)) ∧ Below w.heap.size w w' := by
  go_enter Try.func15, Try.ntmps15
  go_wp2_with fail
  refine ((laws_heldTimerS _ acTimers (k) nTimers _ (hrTimers.keep (by (repeat (first | (with_reducible exact Below.refl _ _) | (with_reducible assumption) | ((with_reducible refine Below.setCell ?_ ?_ _); rotate_left; focus (first | omega | (simp; done) | (simp; omega))) | ((with_reducible refine Below.alloc ?_ ?_ _); rotate_left; focus (first | omega | (simp; done) | (simp; omega))) | (with_reducible refine Below.drew ?_) | (with_reducible refine below_drewN ?_ _) | (refine Below.trans ?_ (Below.mono (by with_reducible assumption) (by (first | omega | (simp; done) | (simp; omega)))))))) (by first | omega | (simp; done) | (simp; omega))) (by omega) (by omega))).mono ?_
  rintro e w1 ⟨rfl, hb1⟩
  have hz1 := hb1.size; try simp at hz1
  obtain ⟨hc10, hf10⟩ := box hb1 (w.heap.size) (by first | omega | (simp; done) | (simp; omega))
  have hpos0 : (0 : Int) ≤ ((k + nTimers * 2 : Nat) : Int) := by omega
  push_cast at hpos0
  go_wp2
  go_ret
  exact ⟨by first | rfl | (push_cast; rfl), by (repeat (first | (with_reducible exact Below.refl _ _) | (with_reducible assumption) | ((with_reducible refine Below.setCell ?_ ?_ _); rotate_left; focus (first | omega | (simp; done) | (simp; omega))) | ((with_reducible refine Below.alloc ?_ ?_ _); rotate_left; focus (first | omega | (simp; done) | (simp; omega))) | (with_reducible refine Below.drew ?_) | (with_reducible refine below_drewN ?_ _) | (refine Below.trans ?_ (Below.mono (by with_reducible assumption) (by (first | omega | (simp; done) | (simp; omega)))))))⟩
end Go.Proofs.Ytfbgmpcknhjinaa

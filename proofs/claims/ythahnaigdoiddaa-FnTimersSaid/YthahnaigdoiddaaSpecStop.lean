/- spec.StopTimer, as the law asks. -/
import Derived.Test.YthahnaigdoiddaaStopTimer
import Derived.Test.YthahnaigdoiddaaSpecWithout
set_option linter.unusedSimpArgs false
set_option linter.unusedVariables false
set_option maxRecDepth 20000
namespace Go.Proofs.Ythahnaigdoiddaa
open Go.RowKit
theorem spec_TimerAt2 (cs : List Value) (c : Clock) (id : Int) (w : World) (h : ClockR.Rd w w.heap.size cs c) (hm : ClockR.sz c ≤ 1048576) :
    Calls Try.prog 45 #[.agg cs.toArray, .int .i64 id] w fun e w' => e = .returned (.int .i64 (timerAtF c.Now c.Timers id)) ∧ Below w.heap.size w w' := by
  obtain ⟨v0, rfl, q0⟩ := rd_Clock h
  obtain ⟨A0, c0, rfl⟩ := q0.form
  rw [sz_Clock, sz_TimerS] at hm
  obtain ⟨h1, h2, h3⟩ := reads_TimerS q0
  exact spec_TimerAt c.Now A0 c0 c.Timers id w h1 (by omega)
theorem spec_l07Copy2 (cs : List Value) (c : Clock) (w : World) (h : ClockR.Rd w w.heap.size cs c) (hm : ClockR.sz c ≤ 1048576) :
    Calls Try.prog 25 #[.agg cs.toArray] w fun e w' => ∃ A d, e = .returned (.agg #[.int .i64 c.Now, .slice A c.Timers.length d]) ∧ w'.ownsRow w.heap.size 52 2 (.slice A c.Timers.length d) c.Timers.length (c.Timers.flatMap Timer.cells) ∧ Below w.heap.size w w' := by
  obtain ⟨v0, rfl, q0⟩ := rd_Clock h
  obtain ⟨A0, c0, rfl⟩ := q0.form
  rw [sz_Clock, sz_TimerS] at hm
  obtain ⟨h1, h2, h3⟩ := reads_TimerS q0
  exact spec_l07Copy c.Now A0 c0 c.Timers w h1 (by omega)
theorem spec_l07Without2 (cs : List Value) (c : Clock) (id : Int) (w : World) (h : ClockR.Rd w w.heap.size cs c) (hm : ClockR.sz c ≤ 1048576) :
    Calls Try.prog 44 #[.agg cs.toArray, .int .i64 id] w fun e w' => ∃ A d, e = .returned (.agg #[.int .i64 c.Now, .slice A (without c.Timers id).length d]) ∧ w'.ownsRow w.heap.size 52 2 (.slice A (without c.Timers id).length d) (without c.Timers id).length ((without c.Timers id).flatMap Timer.cells) ∧ Below w.heap.size w w' := by
  obtain ⟨v0, rfl, q0⟩ := rd_Clock h
  obtain ⟨A0, c0, rfl⟩ := q0.form
  rw [sz_Clock, sz_TimerS] at hm
  obtain ⟨h1, h2, h3⟩ := reads_TimerS q0
  exact spec_l07Without c.Now A0 c0 c.Timers id w h1 (by omega)
set_option maxHeartbeats 3200000 in
theorem spec_StopTimerL (cs : List Value) (c : Clock) (id : Int) (w : World) (h : ClockR.Rd w w.heap.size cs c) (hm : ClockR.sz c ≤ 1048576) :
    Calls Try.prog 28 #[.agg cs.toArray, .int .i64 id] w fun e w' => ∃ cs', e = .returned (.tuple #[.agg cs'.toArray, .bool (stopB c id)]) ∧ ClockR.Own w' (InR w.heap.size w'.heap.size) cs' (stopC c id) ∧ Below w.heap.size w w' := by
  obtain ⟨v0, rfl, q0⟩ := rd_Clock h
  obtain ⟨A0, c0, rfl⟩ := q0.form
  have hneg := timerAt_neg (c := c) (id := id)
  cases hs : stopB c id
  all_goals
    rw [hs] at hneg
    first | rw [stopC_no hs] | rw [stopC_yes hs]
    generalize hT : timerAtF c.Now c.Timers id = T at *
    have HT := Lib.hid hT
    have hdec : decide (T < 0) = _ := hneg
    clear hs hT
    simp only [Bool.not_false, Bool.not_true] at hdec hneg
    go_enter Try.func28, Try.ntmps28
    go_wp2_with fail
    refine (spec_TimerAt2 _ c id _ (ClockR.rd_keep h (by (repeat (first | (with_reducible exact Below.refl _ _) | (with_reducible assumption) | ((with_reducible refine Below.setCell ?_ ?_ _); rotate_left; focus (first | omega | (simp; done) | (simp; omega))) | ((with_reducible refine Below.alloc ?_ ?_ _); rotate_left; focus (first | omega | (simp; done) | (simp; omega))) | (with_reducible refine Below.drew ?_) | (with_reducible refine below_drewN ?_ _) | (refine Below.trans ?_ (Below.mono (by with_reducible assumption) (by (first | omega | (simp; done) | (simp; omega)))))))) (by first | omega | (simp; done) | (simp; omega))) hm).mono ?_
    rintro e w1 ⟨rfl, hb1⟩
    rw [HT.out]
    have hz1 := hb1.size; try simp at hz1
    have BK0 : Blk w1 w.heap.size 26 #[.int .i64 c.Now, .slice A0 c.Timers.length c0] := by (repeat (first | (with_reducible assumption) | ((with_reducible refine Blk.new' ?_); focus (simp; done)) | (with_reducible refine Blk.alloc ?_ _) | (with_reducible refine Blk.drew ?_) | (with_reducible refine Blk.drewN ?_ _) | ((with_reducible refine Blk.far ?_ ?_ _); rotate_left; focus (first | omega | (simp; done) | (simp; omega))) | (refine Blk.keep ?_ (by with_reducible assumption)) | (refine Blk.below ?_ (by with_reducible assumption) (by (first | omega | (simp; done) | (simp; omega))))))
    have BK1 : Blk w1 (w.heap.size + 1) 26 #[.int .i64 0, .slice none 0 0] := by (repeat (first | (with_reducible assumption) | ((with_reducible refine Blk.new' ?_); focus (simp; done)) | (with_reducible refine Blk.alloc ?_ _) | (with_reducible refine Blk.drew ?_) | (with_reducible refine Blk.drewN ?_ _) | ((with_reducible refine Blk.far ?_ ?_ _); rotate_left; focus (first | omega | (simp; done) | (simp; omega))) | (refine Blk.keep ?_ (by with_reducible assumption)) | (refine Blk.below ?_ (by with_reducible assumption) (by (first | omega | (simp; done) | (simp; omega))))))
    have hc0 := BK0.cell; have hf0 := BK0.frozen; have hl0 := BK0.lt; have hc1 := BK1.cell; have hf1 := BK1.frozen; have hl1 := BK1.lt
    go_wp2_with fail
    first | refine (spec_l07Copy2 _ c _ (ClockR.rd_keep h (by (repeat (first | (with_reducible exact Below.refl _ _) | (with_reducible assumption) | ((with_reducible refine Below.setCell ?_ ?_ _); rotate_left; focus (first | omega | (simp; done) | (simp; omega))) | ((with_reducible refine Below.alloc ?_ ?_ _); rotate_left; focus (first | omega | (simp; done) | (simp; omega))) | (with_reducible refine Below.drew ?_) | (with_reducible refine below_drewN ?_ _) | (refine Below.trans ?_ (Below.mono (by with_reducible assumption) (by (first | omega | (simp; done) | (simp; omega)))))))) (by first | omega | (simp; done) | (simp; omega))) hm).mono ?_ | refine (spec_l07Without2 _ c id _ (ClockR.rd_keep h (by (repeat (first | (with_reducible exact Below.refl _ _) | (with_reducible assumption) | ((with_reducible refine Below.setCell ?_ ?_ _); rotate_left; focus (first | omega | (simp; done) | (simp; omega))) | ((with_reducible refine Below.alloc ?_ ?_ _); rotate_left; focus (first | omega | (simp; done) | (simp; omega))) | (with_reducible refine Below.drew ?_) | (with_reducible refine below_drewN ?_ _) | (refine Below.trans ?_ (Below.mono (by with_reducible assumption) (by (first | omega | (simp; done) | (simp; omega)))))))) (by first | omega | (simp; done) | (simp; omega))) hm).mono ?_
    rintro e w2 ⟨D0, d0, rfl, ho, hb2⟩
    have hz2 := hb2.size; try simp at hz2
    replace BK1 : Blk w2 (w.heap.size + 1) 26 #[.int .i64 0, .slice none 0 0] := by (repeat (first | (with_reducible assumption) | ((with_reducible refine Blk.new' ?_); focus (simp; done)) | (with_reducible refine Blk.alloc ?_ _) | (with_reducible refine Blk.drew ?_) | (with_reducible refine Blk.drewN ?_ _) | ((with_reducible refine Blk.far ?_ ?_ _); rotate_left; focus (first | omega | (simp; done) | (simp; omega))) | (refine Blk.keep ?_ (by with_reducible assumption)) | (refine Blk.below ?_ (by with_reducible assumption) (by (first | omega | (simp; done) | (simp; omega))))))
    replace hc1 := BK1.cell; replace hf1 := BK1.frozen; replace hl1 := BK1.lt
    clear hc0 hf0 hl0 BK0
    go_wp2
    first
    | refine bodyPost_ret (v := .tuple #[.agg #[.int .i64 c.Now, .slice D0 c.Timers.length d0], .bool false]) (by simp [results, Try.results28, go_sem, hc1, hf1]) rfl ⟨[.int .i64 c.Now, .slice D0 c.Timers.length d0], rfl, ?_, by (repeat (first | (with_reducible exact Below.refl _ _) | (with_reducible assumption) | ((with_reducible refine Below.setCell ?_ ?_ _); rotate_left; focus (first | omega | (simp; done) | (simp; omega))) | ((with_reducible refine Below.alloc ?_ ?_ _); rotate_left; focus (first | omega | (simp; done) | (simp; omega))) | (with_reducible refine Below.drew ?_) | (with_reducible refine below_drewN ?_ _) | (refine Below.trans ?_ (Below.mono (by with_reducible assumption) (by (first | omega | (simp; done) | (simp; omega)))))))⟩
    | refine bodyPost_ret (v := .tuple #[.agg #[.int .i64 c.Now, .slice D0 (without c.Timers id).length d0], .bool true]) (by simp [results, Try.results28, go_sem, hc1, hf1]) rfl ⟨[.int .i64 c.Now, .slice D0 (without c.Timers id).length d0], rfl, ?_, by (repeat (first | (with_reducible exact Below.refl _ _) | (with_reducible assumption) | ((with_reducible refine Below.setCell ?_ ?_ _); rotate_left; focus (first | omega | (simp; done) | (simp; omega))) | ((with_reducible refine Below.alloc ?_ ?_ _); rotate_left; focus (first | omega | (simp; done) | (simp; omega))) | (with_reducible refine Below.drew ?_) | (with_reducible refine below_drewN ?_ _) | (refine Below.trans ?_ (Below.mono (by with_reducible assumption) (by (first | omega | (simp; done) | (simp; omega)))))))⟩
    refine own_clock (now := c.Now) (base := w1.heap.size) ?_ ?_ ?_
    · (repeat (first | (with_reducible exact ho) | ((with_reducible refine own_setCell ?_ ?_ _); rotate_left; focus (first | omega | (simp; done) | (simp; omega))) | (with_reducible refine World.ownsRow.alloc ?_ _) | (with_reducible refine own_drew ?_) | (with_reducible refine own_drewN ?_ _) | (refine own_below ?_ (by with_reducible assumption))))
    · omega
    · first | exact Nat.le_refl _ | omega | (simp; done) | (simp; omega)
end Go.Proofs.Ythahnaigdoiddaa

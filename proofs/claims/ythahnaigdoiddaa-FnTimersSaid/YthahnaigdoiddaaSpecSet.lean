/- SetTimer of the reference. -/
import Derived.Test.YthahnaigdoiddaaSetL
import Derived.Test.YthahnaigdoiddaaSpecAdv
set_option linter.unusedSimpArgs false
set_option linter.unusedVariables false
set_option maxRecDepth 20000
namespace Go.Proofs.Ythahnaigdoiddaa
open Go.RowKit
set_option maxHeartbeats 3200000 in
theorem spec_SetTimerL (cs : List Value) (c : Clock) (id at_ : Int) (w : World) (h : ClockR.Rd w w.heap.size cs c) (hm : ClockR.sz c ≤ 1048576) :
    Calls Try.prog 27 #[.agg cs.toArray, .int .i64 id, .int .i64 at_] w fun e w' => ∃ cs', e = .returned (.tuple #[.agg cs'.toArray, .bool (setB c id at_)]) ∧ ClockR.Own w' (InR w.heap.size w'.heap.size) cs' (setC c id at_) ∧ Below w.heap.size w w' := by
  obtain ⟨v0, rfl, q0⟩ := rd_Clock h
  obtain ⟨A0, c0, rfl⟩ := q0.form
  have HOk := Lib.hid (fun (w' : World) (hr : ClockR.Rd w' w'.heap.size [.int .i64 c.Now, .slice A0 c.Timers.length c0] c) => spec_ClockOk2 _ c w' hr hm)
  have HCp := Lib.hid (fun (w' : World) (hr : ClockR.Rd w' w'.heap.size [.int .i64 c.Now, .slice A0 c.Timers.length c0] c) => spec_l07Copy2 _ c w' hr hm)
  have HWo := Lib.hid (fun (w' : World) (hr : ClockR.Rd w' w'.heap.size [.int .i64 c.Now, .slice A0 c.Timers.length c0] c) => spec_l07Without2 _ c id w' hr hm)
  have HR := Lib.hid (fun (w' : World) (hb : Below w.heap.size w w') (hz : w.heap.size ≤ w'.heap.size) => ClockR.rd_keep h hb hz)
  obtain ⟨i0, hi0, hz0, hz1', hz2'⟩ := info_parts info_Timer
  cases hok : clockOk c.Now c.Timers
  · have hN : setB c id at_ = false := by unfold setB; rw [hok]; rfl
    rw [hN, setC_no hN]
    rw [hok] at HOk
    clear hN hok h q0 hm
    go_enter Try.func27, Try.ntmps27
    go_wp2_with fail
    refine (HOk.out _ (HR.out _ (by (repeat (first | (with_reducible exact Below.refl _ _) | (with_reducible assumption) | ((with_reducible refine Below.setCell ?_ ?_ _); rotate_left; focus (first | omega | (simp; done) | (simp; omega))) | ((with_reducible refine Below.alloc ?_ ?_ _); rotate_left; focus (first | omega | (simp; done) | (simp; omega))) | (with_reducible refine Below.drew ?_) | (with_reducible refine below_drewN ?_ _) | (refine Below.trans ?_ (Below.mono (by with_reducible assumption) (by (first | omega | (simp; done) | (simp; omega)))))))) (by first | omega | (simp; done) | (simp; omega)))).mono ?_
    rintro e w1 ⟨rfl, hb1⟩
    have hz1 := hb1.size; try simp at hz1
    have BK0 : Blk w1 w.heap.size 26 #[.int .i64 c.Now, .slice A0 c.Timers.length c0] := by (repeat (first | (with_reducible assumption) | ((with_reducible refine Blk.new' ?_); focus (simp; done)) | (with_reducible refine Blk.alloc ?_ _) | (with_reducible refine Blk.drew ?_) | (with_reducible refine Blk.drewN ?_ _) | ((with_reducible refine Blk.far ?_ ?_ _); rotate_left; focus (first | omega | (simp; done) | (simp; omega))) | (refine Blk.keep ?_ (by with_reducible assumption)) | (refine Blk.below ?_ (by with_reducible assumption) (by (first | omega | (simp; done) | (simp; omega))))))
    have hc0 := BK0.cell; have hf0 := BK0.frozen; have hl0 := BK0.lt
    have BK1 : Blk w1 (w.heap.size + 1) 26 #[.int .i64 0, .slice none 0 0] := by (repeat (first | (with_reducible assumption) | ((with_reducible refine Blk.new' ?_); focus (simp; done)) | (with_reducible refine Blk.alloc ?_ _) | (with_reducible refine Blk.drew ?_) | (with_reducible refine Blk.drewN ?_ _) | ((with_reducible refine Blk.far ?_ ?_ _); rotate_left; focus (first | omega | (simp; done) | (simp; omega))) | (refine Blk.keep ?_ (by with_reducible assumption)) | (refine Blk.below ?_ (by with_reducible assumption) (by (first | omega | (simp; done) | (simp; omega))))))
    have hc1 := BK1.cell; have hf1 := BK1.frozen; have hl1 := BK1.lt
    go_wp2_with fail
    refine (HCp.out _ (HR.out _ (by (repeat (first | (with_reducible exact Below.refl _ _) | (with_reducible assumption) | ((with_reducible refine Below.setCell ?_ ?_ _); rotate_left; focus (first | omega | (simp; done) | (simp; omega))) | ((with_reducible refine Below.alloc ?_ ?_ _); rotate_left; focus (first | omega | (simp; done) | (simp; omega))) | (with_reducible refine Below.drew ?_) | (with_reducible refine below_drewN ?_ _) | (refine Below.trans ?_ (Below.mono (by with_reducible assumption) (by (first | omega | (simp; done) | (simp; omega)))))))) (by first | omega | (simp; done) | (simp; omega)))).mono ?_
    rintro e w2 ⟨D5, d5, rfl, ho2, hb2⟩
    have hz2 := hb2.size; try simp at hz2
    replace BK0 : Blk w2 w.heap.size 26 #[.int .i64 c.Now, .slice A0 c.Timers.length c0] := by (repeat (first | (with_reducible assumption) | ((with_reducible refine Blk.new' ?_); focus (simp; done)) | (with_reducible refine Blk.alloc ?_ _) | (with_reducible refine Blk.drew ?_) | (with_reducible refine Blk.drewN ?_ _) | ((with_reducible refine Blk.far ?_ ?_ _); rotate_left; focus (first | omega | (simp; done) | (simp; omega))) | (refine Blk.keep ?_ (by with_reducible assumption)) | (refine Blk.below ?_ (by with_reducible assumption) (by (first | omega | (simp; done) | (simp; omega))))))
    replace hc0 := BK0.cell; replace hf0 := BK0.frozen; replace hl0 := BK0.lt
    replace BK1 : Blk w2 (w.heap.size + 1) 26 #[.int .i64 0, .slice none 0 0] := by (repeat (first | (with_reducible assumption) | ((with_reducible refine Blk.new' ?_); focus (simp; done)) | (with_reducible refine Blk.alloc ?_ _) | (with_reducible refine Blk.drew ?_) | (with_reducible refine Blk.drewN ?_ _) | ((with_reducible refine Blk.far ?_ ?_ _); rotate_left; focus (first | omega | (simp; done) | (simp; omega))) | (refine Blk.keep ?_ (by with_reducible assumption)) | (refine Blk.below ?_ (by with_reducible assumption) (by (first | omega | (simp; done) | (simp; omega))))))
    replace hc1 := BK1.cell; replace hf1 := BK1.frozen; replace hl1 := BK1.lt
    have HO := Lib.hid (own_clock (now := c.Now) (lo := w1.heap.size) (hi := w2.heap.size) ho2 (Nat.le_refl _) (Nat.le_refl _))
    clear ho2
    go_wp2
    refine bodyPost_ret (v := .tuple #[.agg #[.int .i64 c.Now, .slice D5 c.Timers.length d5], .bool false]) (by simp [results, Try.results27, go_sem, hc1, hf1]) rfl ⟨[.int .i64 c.Now, .slice D5 c.Timers.length d5], rfl, ?_, by (repeat (first | (with_reducible exact Below.refl _ _) | (with_reducible assumption) | ((with_reducible refine Below.setCell ?_ ?_ _); rotate_left; focus (first | omega | (simp; done) | (simp; omega))) | ((with_reducible refine Below.alloc ?_ ?_ _); rotate_left; focus (first | omega | (simp; done) | (simp; omega))) | (with_reducible refine Below.drew ?_) | (with_reducible refine below_drewN ?_ _) | (refine Below.trans ?_ (Below.mono (by with_reducible assumption) (by (first | omega | (simp; done) | (simp; omega)))))))⟩
    exact ClockR.own_wide (ClockR.own_off HO.out (by (repeat (first | (with_reducible exact Out.refl _ _) | (with_reducible assumption) | ((with_reducible refine Out.setCell ?_ ?_ _); rotate_left; focus (first | (refine Or.inl ?_; (first | omega | (simp; done) | (simp; omega))) | (refine Or.inr ?_; (first | omega | (simp; done) | (simp; omega))))) | (with_reducible refine Out.alloc ?_ _) | (with_reducible refine Out.drew ?_) | (with_reducible refine Out.drewN ?_ _) | (refine Out.step ?_ (by with_reducible assumption)))))) (inR_mono (by first | omega | (simp; done) | (simp; omega)) (by first | omega | (simp; done) | (simp; omega)))
  rw [hok] at HOk
  by_cases hnow : at_ < c.Now
  · have hN : setB c id at_ = false := by unfold setB; rw [hok, decide_eq_false (Int.not_le.2 hnow)]; rfl
    rw [hN, setC_no hN]
    clear hN hok h q0 hm
    go_enter Try.func27, Try.ntmps27
    go_wp2_with fail
    refine (HOk.out _ (HR.out _ (by (repeat (first | (with_reducible exact Below.refl _ _) | (with_reducible assumption) | ((with_reducible refine Below.setCell ?_ ?_ _); rotate_left; focus (first | omega | (simp; done) | (simp; omega))) | ((with_reducible refine Below.alloc ?_ ?_ _); rotate_left; focus (first | omega | (simp; done) | (simp; omega))) | (with_reducible refine Below.drew ?_) | (with_reducible refine below_drewN ?_ _) | (refine Below.trans ?_ (Below.mono (by with_reducible assumption) (by (first | omega | (simp; done) | (simp; omega)))))))) (by first | omega | (simp; done) | (simp; omega)))).mono ?_
    rintro e w1 ⟨rfl, hb1⟩
    have hz1 := hb1.size; try simp at hz1
    have BK0 : Blk w1 w.heap.size 26 #[.int .i64 c.Now, .slice A0 c.Timers.length c0] := by (repeat (first | (with_reducible assumption) | ((with_reducible refine Blk.new' ?_); focus (simp; done)) | (with_reducible refine Blk.alloc ?_ _) | (with_reducible refine Blk.drew ?_) | (with_reducible refine Blk.drewN ?_ _) | ((with_reducible refine Blk.far ?_ ?_ _); rotate_left; focus (first | omega | (simp; done) | (simp; omega))) | (refine Blk.keep ?_ (by with_reducible assumption)) | (refine Blk.below ?_ (by with_reducible assumption) (by (first | omega | (simp; done) | (simp; omega))))))
    have hc0 := BK0.cell; have hf0 := BK0.frozen; have hl0 := BK0.lt
    have BK1 : Blk w1 (w.heap.size + 1) 26 #[.int .i64 0, .slice none 0 0] := by (repeat (first | (with_reducible assumption) | ((with_reducible refine Blk.new' ?_); focus (simp; done)) | (with_reducible refine Blk.alloc ?_ _) | (with_reducible refine Blk.drew ?_) | (with_reducible refine Blk.drewN ?_ _) | ((with_reducible refine Blk.far ?_ ?_ _); rotate_left; focus (first | omega | (simp; done) | (simp; omega))) | (refine Blk.keep ?_ (by with_reducible assumption)) | (refine Blk.below ?_ (by with_reducible assumption) (by (first | omega | (simp; done) | (simp; omega))))))
    have hc1 := BK1.cell; have hf1 := BK1.frozen; have hl1 := BK1.lt
    go_wp2_with fail
    refine (HCp.out _ (HR.out _ (by (repeat (first | (with_reducible exact Below.refl _ _) | (with_reducible assumption) | ((with_reducible refine Below.setCell ?_ ?_ _); rotate_left; focus (first | omega | (simp; done) | (simp; omega))) | ((with_reducible refine Below.alloc ?_ ?_ _); rotate_left; focus (first | omega | (simp; done) | (simp; omega))) | (with_reducible refine Below.drew ?_) | (with_reducible refine below_drewN ?_ _) | (refine Below.trans ?_ (Below.mono (by with_reducible assumption) (by (first | omega | (simp; done) | (simp; omega)))))))) (by first | omega | (simp; done) | (simp; omega)))).mono ?_
    rintro e w2 ⟨D5, d5, rfl, ho2, hb2⟩
    have hz2 := hb2.size; try simp at hz2
    replace BK0 : Blk w2 w.heap.size 26 #[.int .i64 c.Now, .slice A0 c.Timers.length c0] := by (repeat (first | (with_reducible assumption) | ((with_reducible refine Blk.new' ?_); focus (simp; done)) | (with_reducible refine Blk.alloc ?_ _) | (with_reducible refine Blk.drew ?_) | (with_reducible refine Blk.drewN ?_ _) | ((with_reducible refine Blk.far ?_ ?_ _); rotate_left; focus (first | omega | (simp; done) | (simp; omega))) | (refine Blk.keep ?_ (by with_reducible assumption)) | (refine Blk.below ?_ (by with_reducible assumption) (by (first | omega | (simp; done) | (simp; omega))))))
    replace hc0 := BK0.cell; replace hf0 := BK0.frozen; replace hl0 := BK0.lt
    replace BK1 : Blk w2 (w.heap.size + 1) 26 #[.int .i64 0, .slice none 0 0] := by (repeat (first | (with_reducible assumption) | ((with_reducible refine Blk.new' ?_); focus (simp; done)) | (with_reducible refine Blk.alloc ?_ _) | (with_reducible refine Blk.drew ?_) | (with_reducible refine Blk.drewN ?_ _) | ((with_reducible refine Blk.far ?_ ?_ _); rotate_left; focus (first | omega | (simp; done) | (simp; omega))) | (refine Blk.keep ?_ (by with_reducible assumption)) | (refine Blk.below ?_ (by with_reducible assumption) (by (first | omega | (simp; done) | (simp; omega))))))
    replace hc1 := BK1.cell; replace hf1 := BK1.frozen; replace hl1 := BK1.lt
    have HO := Lib.hid (own_clock (now := c.Now) (lo := w1.heap.size) (hi := w2.heap.size) ho2 (Nat.le_refl _) (Nat.le_refl _))
    clear ho2
    go_wp2
    refine bodyPost_ret (v := .tuple #[.agg #[.int .i64 c.Now, .slice D5 c.Timers.length d5], .bool false]) (by simp [results, Try.results27, go_sem, hc1, hf1]) rfl ⟨[.int .i64 c.Now, .slice D5 c.Timers.length d5], rfl, ?_, by (repeat (first | (with_reducible exact Below.refl _ _) | (with_reducible assumption) | ((with_reducible refine Below.setCell ?_ ?_ _); rotate_left; focus (first | omega | (simp; done) | (simp; omega))) | ((with_reducible refine Below.alloc ?_ ?_ _); rotate_left; focus (first | omega | (simp; done) | (simp; omega))) | (with_reducible refine Below.drew ?_) | (with_reducible refine below_drewN ?_ _) | (refine Below.trans ?_ (Below.mono (by with_reducible assumption) (by (first | omega | (simp; done) | (simp; omega)))))))⟩
    exact ClockR.own_wide (ClockR.own_off HO.out (by (repeat (first | (with_reducible exact Out.refl _ _) | (with_reducible assumption) | ((with_reducible refine Out.setCell ?_ ?_ _); rotate_left; focus (first | (refine Or.inl ?_; (first | omega | (simp; done) | (simp; omega))) | (refine Or.inr ?_; (first | omega | (simp; done) | (simp; omega))))) | (with_reducible refine Out.alloc ?_ _) | (with_reducible refine Out.drew ?_) | (with_reducible refine Out.drewN ?_ _) | (refine Out.step ?_ (by with_reducible assumption)))))) (inR_mono (by first | omega | (simp; done) | (simp; omega)) (by first | omega | (simp; done) | (simp; omega)))
  have hSB : setB c id at_ = clockOk c.Now (setL c id at_) := by unfold setB; rw [hok, decide_eq_true (Int.not_lt.1 hnow), Bool.true_and, Bool.true_and]
  have HY := Lib.hid (fun hs => setC_yes (c := c) (id := id) (at_ := at_) hs)
  have HNo := Lib.hid (fun hs => setC_no (c := c) (id := id) (at_ := at_) hs)
  have hml := clock_len hok
  have hul := without_le c.Timers id
  have hL : setL c id at_ = insT (without c.Timers id) ⟨at_, id⟩ := rfl
  rw [hL] at hSB HY
  generalize setC c id at_ = SC at *
  generalize setB c id at_ = SB at *
  generalize without c.Timers id = us at *
  generalize hn : us.length = n at *
  have Hn := Lib.hid hn
  have HSB := Lib.hid hSB
  clear hok h q0 hm hL hn hSB
  go_enter Try.func27, Try.ntmps27
  go_wp2_with fail
  refine (HOk.out _ (HR.out _ (by (repeat (first | (with_reducible exact Below.refl _ _) | (with_reducible assumption) | ((with_reducible refine Below.setCell ?_ ?_ _); rotate_left; focus (first | omega | (simp; done) | (simp; omega))) | ((with_reducible refine Below.alloc ?_ ?_ _); rotate_left; focus (first | omega | (simp; done) | (simp; omega))) | (with_reducible refine Below.drew ?_) | (with_reducible refine below_drewN ?_ _) | (refine Below.trans ?_ (Below.mono (by with_reducible assumption) (by (first | omega | (simp; done) | (simp; omega)))))))) (by first | omega | (simp; done) | (simp; omega)))).mono ?_
  rintro e w1 ⟨rfl, hb1⟩
  have hz1 := hb1.size; try simp at hz1
  have BK0 : Blk w1 w.heap.size 26 #[.int .i64 c.Now, .slice A0 c.Timers.length c0] := by (repeat (first | (with_reducible assumption) | ((with_reducible refine Blk.new' ?_); focus (simp; done)) | (with_reducible refine Blk.alloc ?_ _) | (with_reducible refine Blk.drew ?_) | (with_reducible refine Blk.drewN ?_ _) | ((with_reducible refine Blk.far ?_ ?_ _); rotate_left; focus (first | omega | (simp; done) | (simp; omega))) | (refine Blk.keep ?_ (by with_reducible assumption)) | (refine Blk.below ?_ (by with_reducible assumption) (by (first | omega | (simp; done) | (simp; omega))))))
  have hc0 := BK0.cell; have hf0 := BK0.frozen; have hl0 := BK0.lt
  have BK1 : Blk w1 (w.heap.size + 1) 26 #[.int .i64 0, .slice none 0 0] := by (repeat (first | (with_reducible assumption) | ((with_reducible refine Blk.new' ?_); focus (simp; done)) | (with_reducible refine Blk.alloc ?_ _) | (with_reducible refine Blk.drew ?_) | (with_reducible refine Blk.drewN ?_ _) | ((with_reducible refine Blk.far ?_ ?_ _); rotate_left; focus (first | omega | (simp; done) | (simp; omega))) | (refine Blk.keep ?_ (by with_reducible assumption)) | (refine Blk.below ?_ (by with_reducible assumption) (by (first | omega | (simp; done) | (simp; omega))))))
  have hc1 := BK1.cell; have hf1 := BK1.frozen; have hl1 := BK1.lt
  go_wp2_with fail
  refine (HWo.out _ (HR.out _ (by (repeat (first | (with_reducible exact Below.refl _ _) | (with_reducible assumption) | ((with_reducible refine Below.setCell ?_ ?_ _); rotate_left; focus (first | omega | (simp; done) | (simp; omega))) | ((with_reducible refine Below.alloc ?_ ?_ _); rotate_left; focus (first | omega | (simp; done) | (simp; omega))) | (with_reducible refine Below.drew ?_) | (with_reducible refine below_drewN ?_ _) | (refine Below.trans ?_ (Below.mono (by with_reducible assumption) (by (first | omega | (simp; done) | (simp; omega)))))))) (by first | omega | (simp; done) | (simp; omega)))).mono ?_
  rintro e w2 ⟨Do, do_, rfl, ho2, hb2⟩
  have hz2 := hb2.size; try simp at hz2
  replace BK0 : Blk w2 w.heap.size 26 #[.int .i64 c.Now, .slice A0 c.Timers.length c0] := by (repeat (first | (with_reducible assumption) | ((with_reducible refine Blk.new' ?_); focus (simp; done)) | (with_reducible refine Blk.alloc ?_ _) | (with_reducible refine Blk.drew ?_) | (with_reducible refine Blk.drewN ?_ _) | ((with_reducible refine Blk.far ?_ ?_ _); rotate_left; focus (first | omega | (simp; done) | (simp; omega))) | (refine Blk.keep ?_ (by with_reducible assumption)) | (refine Blk.below ?_ (by with_reducible assumption) (by (first | omega | (simp; done) | (simp; omega))))))
  replace hc0 := BK0.cell; replace hf0 := BK0.frozen; replace hl0 := BK0.lt
  replace BK1 : Blk w2 (w.heap.size + 1) 26 #[.int .i64 0, .slice none 0 0] := by (repeat (first | (with_reducible assumption) | ((with_reducible refine Blk.new' ?_); focus (simp; done)) | (with_reducible refine Blk.alloc ?_ _) | (with_reducible refine Blk.drew ?_) | (with_reducible refine Blk.drewN ?_ _) | ((with_reducible refine Blk.far ?_ ?_ _); rotate_left; focus (first | omega | (simp; done) | (simp; omega))) | (refine Blk.keep ?_ (by with_reducible assumption)) | (refine Blk.below ?_ (by with_reducible assumption) (by (first | omega | (simp; done) | (simp; omega))))))
  replace hc1 := BK1.cell; replace hf1 := BK1.frozen; replace hl1 := BK1.lt
  have hbw2 : Below w.heap.size w w2 := by (repeat (first | (with_reducible exact Below.refl _ _) | (with_reducible assumption) | ((with_reducible refine Below.setCell ?_ ?_ _); rotate_left; focus (first | omega | (simp; done) | (simp; omega))) | ((with_reducible refine Below.alloc ?_ ?_ _); rotate_left; focus (first | omega | (simp; done) | (simp; omega))) | (with_reducible refine Below.drew ?_) | (with_reducible refine below_drewN ?_ _) | (refine Below.trans ?_ (Below.mono (by with_reducible assumption) (by (first | omega | (simp; done) | (simp; omega)))))))
  have hrU : Reads w2 w2.heap.size Do (us.flatMap Timer.cells) := Reads.of_own ho2
  obtain ⟨p, hp⟩ : ∃ p, p = insAt us ⟨at_, id⟩ := ⟨_, rfl⟩
  have HP := Lib.hid hp
  clear hp ho2
  go_wp2
  go_loopw [11, 12] (fun pu i wr => ∃ (k : Nat) (L : List Timer) (A1 : Option Addr) (c1 : Nat), k ≤ n ∧ L.length ≤ k + 1 ∧ i = .int .i64 k ∧ pu = .bool (decide (p < k)) ∧ Below w2.heap.size w2 wr ∧ w2.heap.size + 3 ≤ wr.heap.size ∧ Blk wr w.heap.size 26 #[.int .i64 c.Now, .slice A0 c.Timers.length c0] ∧ Blk wr (w.heap.size + 1) 26 #[.int .i64 0, .slice none 0 0] ∧ Blk wr w2.heap.size 26 #[.int .i64 c.Now, .slice Do n do_] ∧ Blk wr (w2.heap.size + 1 + 1) 52 #[.int .i64 at_, .int .i64 id] ∧ Blk wr (w2.heap.size + 1) 26 #[.int .i64 c.Now, .slice A1 L.length c1] ∧ Hid (wr.ownsRow (w2.heap.size + 3) 52 2 (.slice A1 L.length c1) L.length (L.flatMap Timer.cells)) ∧ Hid (L = insK us ⟨at_, id⟩ k)) (fun _ i _ => n - (intOf i).toNat)
  case atStart => exact ⟨0, [], none, 0, Nat.zero_le _, by simp, rfl, rfl, by (repeat (first | (with_reducible exact Below.refl _ _) | (with_reducible assumption) | ((with_reducible refine Below.setCell ?_ ?_ _); rotate_left; focus (first | omega | (simp; done) | (simp; omega))) | ((with_reducible refine Below.alloc ?_ ?_ _); rotate_left; focus (first | omega | (simp; done) | (simp; omega))) | (with_reducible refine Below.drew ?_) | (with_reducible refine below_drewN ?_ _) | (refine Below.trans ?_ (Below.mono (by with_reducible assumption) (by (first | omega | (simp; done) | (simp; omega))))))), by simp, by (repeat (first | (with_reducible assumption) | ((with_reducible refine Blk.new' ?_); focus (simp; done)) | (with_reducible refine Blk.alloc ?_ _) | (with_reducible refine Blk.drew ?_) | (with_reducible refine Blk.drewN ?_ _) | ((with_reducible refine Blk.far ?_ ?_ _); rotate_left; focus (first | omega | (simp; done) | (simp; omega))) | (refine Blk.keep ?_ (by with_reducible assumption)) | (refine Blk.below ?_ (by with_reducible assumption) (by (first | omega | (simp; done) | (simp; omega)))))), by (repeat (first | (with_reducible assumption) | ((with_reducible refine Blk.new' ?_); focus (simp; done)) | (with_reducible refine Blk.alloc ?_ _) | (with_reducible refine Blk.drew ?_) | (with_reducible refine Blk.drewN ?_ _) | ((with_reducible refine Blk.far ?_ ?_ _); rotate_left; focus (first | omega | (simp; done) | (simp; omega))) | (refine Blk.keep ?_ (by with_reducible assumption)) | (refine Blk.below ?_ (by with_reducible assumption) (by (first | omega | (simp; done) | (simp; omega)))))), by (repeat (first | (with_reducible assumption) | ((with_reducible refine Blk.new' ?_); focus (simp; done)) | (with_reducible refine Blk.alloc ?_ _) | (with_reducible refine Blk.drew ?_) | (with_reducible refine Blk.drewN ?_ _) | ((with_reducible refine Blk.far ?_ ?_ _); rotate_left; focus (first | omega | (simp; done) | (simp; omega))) | (refine Blk.keep ?_ (by with_reducible assumption)) | (refine Blk.below ?_ (by with_reducible assumption) (by (first | omega | (simp; done) | (simp; omega)))))), by (repeat (first | (with_reducible assumption) | ((with_reducible refine Blk.new' ?_); focus (simp; done)) | (with_reducible refine Blk.alloc ?_ _) | (with_reducible refine Blk.drew ?_) | (with_reducible refine Blk.drewN ?_ _) | ((with_reducible refine Blk.far ?_ ?_ _); rotate_left; focus (first | omega | (simp; done) | (simp; omega))) | (refine Blk.keep ?_ (by with_reducible assumption)) | (refine Blk.below ?_ (by with_reducible assumption) (by (first | omega | (simp; done) | (simp; omega)))))), (by (repeat (first | (with_reducible assumption) | ((with_reducible refine Blk.new' ?_); focus (simp; done)) | (with_reducible refine Blk.alloc ?_ _) | (with_reducible refine Blk.drew ?_) | (with_reducible refine Blk.drewN ?_ _) | ((with_reducible refine Blk.far ?_ ?_ _); rotate_left; focus (first | omega | (simp; done) | (simp; omega))) | (refine Blk.keep ?_ (by with_reducible assumption)) | (refine Blk.below ?_ (by with_reducible assumption) (by (first | omega | (simp; done) | (simp; omega)))))) : Blk _ _ 26 #[.int .i64 c.Now, .slice none 0 0]), Lib.hid (World.ownsRow_nil _ _ _ _), Lib.hid (insK_zero _ _).symm⟩
  case round =>
    clear hb1 hb2 BK0 BK1 hc0 hf0 hl0 hc1 hf1 hl1
    obtain ⟨k, L, A1, c1, hk, hLk, rfl, rfl, hb, hzr, BK0, BK1, BKW, BKT, BO, HI, HL⟩ := hrel
    have hbw : Below w.heap.size w wr := hbw2.trans (hb.mono hbw2.size)
    have hc1 := BK1.cell; have hf1 := BK1.frozen; have hl1 := BK1.lt; have hc0 := BK0.cell; have hf0 := BK0.frozen; have hl0 := BK0.lt; have hcW := BKW.cell; have hcT := BKT.cell; have hcO := BO.cell; have hfO := BO.frozen; have hlO := BO.lt
    have hiw := HI.out
    have hiwlt : ∀ q, (Value.slice A1 L.length c1).ownBlock = some q → w2.heap.size + 3 ≤ q ∧ q < wr.heap.size := fun q e => hiw.lt q e
    by_cases hlt : k < n
    rotate_left
    · obtain rfl : k = n := by omega
      by_cases hpk : p < k
      · have hdp : decide (p < k) = true := decide_eq_true hpk
        have HLe : Hid (L = insT us ⟨at_, id⟩) := Lib.hid (by rw [HL.out, ← Hn.out]; exact insK_end_put (by rw [← HP.out, Hn.out]; exact hpk))
        have HLn : Hid (L.length = L.length) := Lib.hid rfl
        have HRdL := Lib.hid (fun (w' : World) (hb' : Below wr.heap.size wr w') (hz' : wr.heap.size ≤ w'.heap.size) => (Reads.of_own hiw).keep hb' hz')
        have HKeep := Lib.hid (fun (w' : World) (hb' : Below wr.heap.size wr w') => own_below hiw hb')
        rw [hdp]
        have HOk2 := Lib.hid (fun (w' : World) (hr : Reads w' w'.heap.size A1 ((L).flatMap Timer.cells)) => (Calls.cast (by rw [HLn.out]) (spec_ClockOk c.Now A1 c1 (L) w' hr (by rw [HLn.out]; omega)) : Calls Try.prog 26 #[.agg #[.int .i64 c.Now, .slice A1 (L.length) c1]] w' fun e w'' => e = .returned (.bool (clockOk c.Now (L))) ∧ Below w'.heap.size w' w''))
        go_wp2_with fail
        refine (HOk2.out _ ?_).mono ?_
        · exact HRdL.out _ (by (repeat (first | (with_reducible exact Below.refl _ _) | (with_reducible assumption) | ((with_reducible refine Below.setCell ?_ ?_ _); rotate_left; focus (first | omega | (simp; done) | (simp; omega))) | ((with_reducible refine Below.alloc ?_ ?_ _); rotate_left; focus (first | omega | (simp; done) | (simp; omega))) | (with_reducible refine Below.drew ?_) | (with_reducible refine below_drewN ?_ _) | (refine Below.trans ?_ (Below.mono (by with_reducible assumption) (by (first | omega | (simp; done) | (simp; omega)))))))) (by first | omega | (simp; done) | (simp; omega))
        rintro e w6 ⟨rfl, hb6⟩
        have hz6 := hb6.size
        try simp at hz6
        have ho6 := HKeep.out w6 (by (repeat (first | (with_reducible exact Below.refl _ _) | (with_reducible assumption) | ((with_reducible refine Below.setCell ?_ ?_ _); rotate_left; focus (first | omega | (simp; done) | (simp; omega))) | ((with_reducible refine Below.alloc ?_ ?_ _); rotate_left; focus (first | omega | (simp; done) | (simp; omega))) | (with_reducible refine Below.drew ?_) | (with_reducible refine below_drewN ?_ _) | (refine Below.trans ?_ (Below.mono (by with_reducible assumption) (by (first | omega | (simp; done) | (simp; omega))))))))
        have BR6 : Blk w6 (w.heap.size + 1) 26 #[.int .i64 0, .slice none 0 0] := by (repeat (first | (with_reducible assumption) | ((with_reducible refine Blk.new' ?_); focus (simp; done)) | (with_reducible refine Blk.alloc ?_ _) | (with_reducible refine Blk.drew ?_) | (with_reducible refine Blk.drewN ?_ _) | ((with_reducible refine Blk.far ?_ ?_ _); rotate_left; focus (first | omega | (simp; done) | (simp; omega))) | (refine Blk.keep ?_ (by with_reducible assumption)) | (refine Blk.below ?_ (by with_reducible assumption) (by (first | omega | (simp; done) | (simp; omega))))))
        have BZ6 : Blk w6 w.heap.size 26 #[.int .i64 c.Now, .slice A0 c.Timers.length c0] := by (repeat (first | (with_reducible assumption) | ((with_reducible refine Blk.new' ?_); focus (simp; done)) | (with_reducible refine Blk.alloc ?_ _) | (with_reducible refine Blk.drew ?_) | (with_reducible refine Blk.drewN ?_ _) | ((with_reducible refine Blk.far ?_ ?_ _); rotate_left; focus (first | omega | (simp; done) | (simp; omega))) | (refine Blk.keep ?_ (by with_reducible assumption)) | (refine Blk.below ?_ (by with_reducible assumption) (by (first | omega | (simp; done) | (simp; omega))))))
        have BO6 : Blk w6 (w2.heap.size + 1) 26 #[.int .i64 c.Now, .slice A1 (L.length) c1] := by (repeat (first | (with_reducible assumption) | ((with_reducible refine Blk.new' ?_); focus (simp; done)) | (with_reducible refine Blk.alloc ?_ _) | (with_reducible refine Blk.drew ?_) | (with_reducible refine Blk.drewN ?_ _) | ((with_reducible refine Blk.far ?_ ?_ _); rotate_left; focus (first | omega | (simp; done) | (simp; omega))) | (refine Blk.keep ?_ (by with_reducible assumption)) | (refine Blk.below ?_ (by with_reducible assumption) (by (first | omega | (simp; done) | (simp; omega))))))
        replace hc1 := BR6.cell; replace hf1 := BR6.frozen; replace hl1 := BR6.lt; replace hc0 := BZ6.cell; replace hf0 := BZ6.frozen; replace hl0 := BZ6.lt; have hcX := BO6.cell; have hfX := BO6.frozen
        have hbw6 : Below w.heap.size w w6 := by (repeat (first | (with_reducible exact Below.refl _ _) | (with_reducible assumption) | ((with_reducible refine Below.setCell ?_ ?_ _); rotate_left; focus (first | omega | (simp; done) | (simp; omega))) | ((with_reducible refine Below.alloc ?_ ?_ _); rotate_left; focus (first | omega | (simp; done) | (simp; omega))) | (with_reducible refine Below.drew ?_) | (with_reducible refine below_drewN ?_ _) | (refine Below.trans ?_ (Below.mono (by with_reducible assumption) (by (first | omega | (simp; done) | (simp; omega)))))))
        have hz62 := hbw6.size
        clear hb6
        cases hfinal : clockOk c.Now (L)
        · have hs : SB = false := by rw [HSB.out, ← HLe.out, hfinal]
          have HS2 := Lib.hid hs
          clear hs hfinal
          go_wp2_with fail
          refine (HCp.out _ (HR.out _ (by (repeat (first | (with_reducible exact Below.refl _ _) | (with_reducible assumption) | ((with_reducible refine Below.setCell ?_ ?_ _); rotate_left; focus (first | omega | (simp; done) | (simp; omega))) | ((with_reducible refine Below.alloc ?_ ?_ _); rotate_left; focus (first | omega | (simp; done) | (simp; omega))) | (with_reducible refine Below.drew ?_) | (with_reducible refine below_drewN ?_ _) | (refine Below.trans ?_ (Below.mono (by with_reducible assumption) (by (first | omega | (simp; done) | (simp; omega)))))))) (by first | omega | (simp; done) | (simp; omega)))).mono ?_
          rintro e w7 ⟨D5, d5, rfl, ho7, hb7⟩
          have hz7 := hb7.size
          have BR7 := BR6.keep hb7
          replace hc1 := BR7.cell; replace hf1 := BR7.frozen; replace hl1 := BR7.lt
          have HO := Lib.hid (own_clock (now := c.Now) (lo := w6.heap.size) (hi := w7.heap.size) ho7 (Nat.le_refl _) (Nat.le_refl _))
          clear ho7
          go_wp2
          refine bodyPost_ret (v := .tuple #[.agg #[.int .i64 c.Now, .slice D5 c.Timers.length d5], .bool false]) (by simp [results, Try.results27, go_sem, hc1, hf1]) rfl ⟨[.int .i64 c.Now, .slice D5 c.Timers.length d5], by rw [HS2.out], ?_, by (repeat (first | (with_reducible exact Below.refl _ _) | (with_reducible assumption) | ((with_reducible refine Below.setCell ?_ ?_ _); rotate_left; focus (first | omega | (simp; done) | (simp; omega))) | ((with_reducible refine Below.alloc ?_ ?_ _); rotate_left; focus (first | omega | (simp; done) | (simp; omega))) | (with_reducible refine Below.drew ?_) | (with_reducible refine below_drewN ?_ _) | (refine Below.trans ?_ (Below.mono (by with_reducible assumption) (by (first | omega | (simp; done) | (simp; omega)))))))⟩
          rw [HNo.out HS2.out]
          exact ClockR.own_wide (ClockR.own_off HO.out (by (repeat (first | (with_reducible exact Out.refl _ _) | (with_reducible assumption) | ((with_reducible refine Out.setCell ?_ ?_ _); rotate_left; focus (first | (refine Or.inl ?_; (first | omega | (simp; done) | (simp; omega))) | (refine Or.inr ?_; (first | omega | (simp; done) | (simp; omega))))) | (with_reducible refine Out.alloc ?_ _) | (with_reducible refine Out.drew ?_) | (with_reducible refine Out.drewN ?_ _) | (refine Out.step ?_ (by with_reducible assumption)))))) (inR_mono (by first | omega | (simp; done) | (simp; omega)) (by first | omega | (simp; done) | (simp; omega)))
        have hs : SB = true := by rw [HSB.out, ← HLe.out, hfinal]
        have HS2 := Lib.hid hs
        clear hs hfinal
        go_wp2
        refine bodyPost_ret (v := .tuple #[.agg #[.int .i64 c.Now, .slice A1 (L.length) c1], .bool true]) (by simp [results, Try.results27, go_sem, hc1, hf1, hcX, hfX]) rfl ⟨[.int .i64 c.Now, .slice A1 (L.length) c1], by rw [HS2.out], ?_, by (repeat (first | (with_reducible exact Below.refl _ _) | (with_reducible assumption) | ((with_reducible refine Below.setCell ?_ ?_ _); rotate_left; focus (first | omega | (simp; done) | (simp; omega))) | ((with_reducible refine Below.alloc ?_ ?_ _); rotate_left; focus (first | omega | (simp; done) | (simp; omega))) | (with_reducible refine Below.drew ?_) | (with_reducible refine below_drewN ?_ _) | (refine Below.trans ?_ (Below.mono (by with_reducible assumption) (by (first | omega | (simp; done) | (simp; omega)))))))⟩
        rw [HY.out HS2.out]
        have HO : Hid (ClockR.Own w6 (InR (w2.heap.size + 3) w6.heap.size) [.int .i64 c.Now, .slice A1 (L.length) c1] ⟨c.Now, insT us ⟨at_, id⟩⟩) := Lib.hid (by
          have h5 := own_clock (now := c.Now) (lo := w2.heap.size + 3) (hi := w6.heap.size) (xs := L) (A := A1) (c := c1) (ho6) (Nat.le_refl _) (Nat.le_refl _)
          skip
          rw [← HLe.out]
          exact h5)
        exact ClockR.own_wide (ClockR.own_off HO.out (by (repeat (first | (with_reducible exact Out.refl _ _) | (with_reducible assumption) | ((with_reducible refine Out.setCell ?_ ?_ _); rotate_left; focus (first | (refine Or.inl ?_; (first | omega | (simp; done) | (simp; omega))) | (refine Or.inr ?_; (first | omega | (simp; done) | (simp; omega))))) | (with_reducible refine Out.alloc ?_ _) | (with_reducible refine Out.drew ?_) | (with_reducible refine Out.drewN ?_ _) | (refine Out.step ?_ (by with_reducible assumption)))))) (inR_mono (by first | omega | (simp; done) | (simp; omega)) (by first | omega | (simp; done) | (simp; omega)))
      have hdp : decide (p < k) = false := decide_eq_false hpk
      rw [hdp]
      have hne : ∀ q, q < w2.heap.size + 3 → some q ≠ (Value.slice A1 L.length c1).ownBlock := fun q hq e => by have := (hiwlt _ e.symm).1; omega
      skip
      go_wp2_with (first | (at_builtin; go_loud (refine wpList_append_own_at _ rfl _ _ 24 rfl (w2.heap.size + 3) 52 i0 _ 2 16 Try.underlying24 hi0 hz0 hz1' hz2' rfl (by decide) _ _ _ rfl (hiw.alloc _) ⟨wr.heap.size, 0, none⟩ 1 1 [.int .i64 at_, .int .i64 id] rfl rfl ?c1 ?c2 ?c3 ?c4 ?c5 ?_; (case c1 => exact (World.news_of_block (cs := #[.int .i64 at_, .int .i64 id]) (t := 52) (fr := (0, 0)) (heap_alloc_new wr _))); (case c2 => simp [Value.oneCell']); (case c3 => (simp only [maxLen]; omega)); (case c4 => omega); (case c5 => (simp; omega)); intro v' wA hown1 hgrow hnil hat; obtain ⟨gg, cap, rfl, hg1, hg2⟩ := hown1.form (by omega); have BOA := ((BO.alloc (.cells #[.int .i64 at_, .int .i64 id] 52)).grown hgrow (hne _ (by omega))); have hcA := BOA.cell; have hfA := BOA.frozen)))
      have hzg := hgrow.size
      have hzg2 : wr.heap.size + 1 ≤ wA.heap.size := by simpa using hzg
      have hbA : Below w.heap.size w (wA.setCell ⟨w2.heap.size + 1, 1, none⟩ (.slice (some ⟨gg, 0, none⟩) (L.length + 1) cap)) := (Below.grown (Below.alloc hbw hbw.size (.cells #[.int .i64 at_, .int .i64 id] 52)) hgrow (by simp; omega) (fun q e => by have := hiwlt q e; omega)).setCell (by simp; try omega) _
      have BOB : Blk (wA.setCell ⟨w2.heap.size + 1, 1, none⟩ (.slice (some ⟨gg, 0, none⟩) (L.length + 1) cap)) (w2.heap.size + 1) 26 #[.int .i64 c.Now, .slice (some ⟨gg, 0, none⟩) (L.length + 1) cap] := by simpa using BOA.set_ 1 (.slice (some ⟨gg, 0, none⟩) (L.length + 1) cap)
      have BK1B : Blk (wA.setCell ⟨w2.heap.size + 1, 1, none⟩ (.slice (some ⟨gg, 0, none⟩) (L.length + 1) cap)) (w.heap.size + 1) 26 #[.int .i64 0, .slice none 0 0] := ((BK1.alloc (.cells #[.int .i64 at_, .int .i64 id] 52)).grown hgrow (hne _ (by omega))).far (by simp; omega) _
      have BK0B : Blk (wA.setCell ⟨w2.heap.size + 1, 1, none⟩ (.slice (some ⟨gg, 0, none⟩) (L.length + 1) cap)) w.heap.size 26 #[.int .i64 c.Now, .slice A0 c.Timers.length c0] := ((BK0.alloc (.cells #[.int .i64 at_, .int .i64 id] 52)).grown hgrow (hne _ (by omega))).far (by simp; omega) _
      have howA : World.ownsRow (wA.setCell ⟨w2.heap.size + 1, 1, none⟩ (.slice (some ⟨gg, 0, none⟩) (L.length + 1) cap)) (w2.heap.size + 3) 52 2 (.slice (some ⟨gg, 0, none⟩) (L.length + 1) cap) (L.length + 1) ((L ++ [(⟨at_, id⟩ : Timer)]).flatMap Timer.cells) := own_setCell (by rw [List.flatMap_append]; simpa [Timer.cells] using hown1) (by simp) _
      have hzW : wr.heap.size + 1 ≤ (wA.setCell ⟨w2.heap.size + 1, 1, none⟩ (.slice (some ⟨gg, 0, none⟩) (L.length + 1) cap)).heap.size := by simp; omega
      generalize (wA.setCell ⟨w2.heap.size + 1, 1, none⟩ (.slice (some ⟨gg, 0, none⟩) (L.length + 1) cap)) = ws at *
      have HLe : Hid (L ++ [(⟨at_, id⟩ : Timer)] = insT us ⟨at_, id⟩) := Lib.hid (by rw [HL.out, ← Hn.out]; exact insK_end_not (by rw [← HP.out, Hn.out]; exact hpk))
      have HLn : Hid ((L ++ [(⟨at_, id⟩ : Timer)]).length = L.length + 1) := Lib.hid (by rw [List.length_append]; rfl)
      have HRdL := Lib.hid (fun (w' : World) (hb' : Below ws.heap.size ws w') (hz' : ws.heap.size ≤ w'.heap.size) => (Reads.of_own howA).keep hb' hz')
      have HKeep := Lib.hid (fun (w' : World) (hb' : Below ws.heap.size ws w') => own_below howA hb')
      clear hbw hb BK0 BK1 BO BOA hc0 hf0 hl0 hc1 hf1 hl1 hcO hfO hlO hcA hfA hown1 hgrow hiw
      have hbw := hbA
      have BO := BOB; have BK1 := BK1B; have BK0 := BK0B
      clear hbA BOB BK1B BK0B
      have hc1 := BK1.cell; have hf1 := BK1.frozen; have hl1 := BK1.lt; have hc0 := BK0.cell; have hf0 := BK0.frozen; have hl0 := BK0.lt; have hcO := BO.cell; have hfO := BO.frozen; have hlO := BO.lt
      have HOk2 := Lib.hid (fun (w' : World) (hr : Reads w' w'.heap.size (some ⟨gg, 0, none⟩) ((L ++ [(⟨at_, id⟩ : Timer)]).flatMap Timer.cells)) => (Calls.cast (by rw [HLn.out]) (spec_ClockOk c.Now (some ⟨gg, 0, none⟩) cap (L ++ [(⟨at_, id⟩ : Timer)]) w' hr (by rw [HLn.out]; omega)) : Calls Try.prog 26 #[.agg #[.int .i64 c.Now, .slice (some ⟨gg, 0, none⟩) (L.length + 1) cap]] w' fun e w'' => e = .returned (.bool (clockOk c.Now (L ++ [(⟨at_, id⟩ : Timer)]))) ∧ Below w'.heap.size w' w''))
      go_wp2_with fail
      refine (HOk2.out _ ?_).mono ?_
      · exact HRdL.out _ (by (repeat (first | (with_reducible exact Below.refl _ _) | (with_reducible assumption) | ((with_reducible refine Below.setCell ?_ ?_ _); rotate_left; focus (first | omega | (simp; done) | (simp; omega))) | ((with_reducible refine Below.alloc ?_ ?_ _); rotate_left; focus (first | omega | (simp; done) | (simp; omega))) | (with_reducible refine Below.drew ?_) | (with_reducible refine below_drewN ?_ _) | (refine Below.trans ?_ (Below.mono (by with_reducible assumption) (by (first | omega | (simp; done) | (simp; omega)))))))) (by first | omega | (simp; done) | (simp; omega))
      rintro e w6 ⟨rfl, hb6⟩
      have hz6 := hb6.size
      try simp at hz6
      have ho6 := HKeep.out w6 (by (repeat (first | (with_reducible exact Below.refl _ _) | (with_reducible assumption) | ((with_reducible refine Below.setCell ?_ ?_ _); rotate_left; focus (first | omega | (simp; done) | (simp; omega))) | ((with_reducible refine Below.alloc ?_ ?_ _); rotate_left; focus (first | omega | (simp; done) | (simp; omega))) | (with_reducible refine Below.drew ?_) | (with_reducible refine below_drewN ?_ _) | (refine Below.trans ?_ (Below.mono (by with_reducible assumption) (by (first | omega | (simp; done) | (simp; omega))))))))
      have BR6 : Blk w6 (w.heap.size + 1) 26 #[.int .i64 0, .slice none 0 0] := by (repeat (first | (with_reducible assumption) | ((with_reducible refine Blk.new' ?_); focus (simp; done)) | (with_reducible refine Blk.alloc ?_ _) | (with_reducible refine Blk.drew ?_) | (with_reducible refine Blk.drewN ?_ _) | ((with_reducible refine Blk.far ?_ ?_ _); rotate_left; focus (first | omega | (simp; done) | (simp; omega))) | (refine Blk.keep ?_ (by with_reducible assumption)) | (refine Blk.below ?_ (by with_reducible assumption) (by (first | omega | (simp; done) | (simp; omega))))))
      have BZ6 : Blk w6 w.heap.size 26 #[.int .i64 c.Now, .slice A0 c.Timers.length c0] := by (repeat (first | (with_reducible assumption) | ((with_reducible refine Blk.new' ?_); focus (simp; done)) | (with_reducible refine Blk.alloc ?_ _) | (with_reducible refine Blk.drew ?_) | (with_reducible refine Blk.drewN ?_ _) | ((with_reducible refine Blk.far ?_ ?_ _); rotate_left; focus (first | omega | (simp; done) | (simp; omega))) | (refine Blk.keep ?_ (by with_reducible assumption)) | (refine Blk.below ?_ (by with_reducible assumption) (by (first | omega | (simp; done) | (simp; omega))))))
      have BO6 : Blk w6 (w2.heap.size + 1) 26 #[.int .i64 c.Now, .slice (some ⟨gg, 0, none⟩) (L.length + 1) cap] := by (repeat (first | (with_reducible assumption) | ((with_reducible refine Blk.new' ?_); focus (simp; done)) | (with_reducible refine Blk.alloc ?_ _) | (with_reducible refine Blk.drew ?_) | (with_reducible refine Blk.drewN ?_ _) | ((with_reducible refine Blk.far ?_ ?_ _); rotate_left; focus (first | omega | (simp; done) | (simp; omega))) | (refine Blk.keep ?_ (by with_reducible assumption)) | (refine Blk.below ?_ (by with_reducible assumption) (by (first | omega | (simp; done) | (simp; omega))))))
      replace hc1 := BR6.cell; replace hf1 := BR6.frozen; replace hl1 := BR6.lt; replace hc0 := BZ6.cell; replace hf0 := BZ6.frozen; replace hl0 := BZ6.lt; have hcX := BO6.cell; have hfX := BO6.frozen
      have hbw6 : Below w.heap.size w w6 := by (repeat (first | (with_reducible exact Below.refl _ _) | (with_reducible assumption) | ((with_reducible refine Below.setCell ?_ ?_ _); rotate_left; focus (first | omega | (simp; done) | (simp; omega))) | ((with_reducible refine Below.alloc ?_ ?_ _); rotate_left; focus (first | omega | (simp; done) | (simp; omega))) | (with_reducible refine Below.drew ?_) | (with_reducible refine below_drewN ?_ _) | (refine Below.trans ?_ (Below.mono (by with_reducible assumption) (by (first | omega | (simp; done) | (simp; omega)))))))
      have hz62 := hbw6.size
      clear hb6
      cases hfinal : clockOk c.Now (L ++ [(⟨at_, id⟩ : Timer)])
      · have hs : SB = false := by rw [HSB.out, ← HLe.out, hfinal]
        have HS2 := Lib.hid hs
        clear hs hfinal
        go_wp2_with fail
        refine (HCp.out _ (HR.out _ (by (repeat (first | (with_reducible exact Below.refl _ _) | (with_reducible assumption) | ((with_reducible refine Below.setCell ?_ ?_ _); rotate_left; focus (first | omega | (simp; done) | (simp; omega))) | ((with_reducible refine Below.alloc ?_ ?_ _); rotate_left; focus (first | omega | (simp; done) | (simp; omega))) | (with_reducible refine Below.drew ?_) | (with_reducible refine below_drewN ?_ _) | (refine Below.trans ?_ (Below.mono (by with_reducible assumption) (by (first | omega | (simp; done) | (simp; omega)))))))) (by first | omega | (simp; done) | (simp; omega)))).mono ?_
        rintro e w7 ⟨D5, d5, rfl, ho7, hb7⟩
        have hz7 := hb7.size
        have BR7 := BR6.keep hb7
        replace hc1 := BR7.cell; replace hf1 := BR7.frozen; replace hl1 := BR7.lt
        have HO := Lib.hid (own_clock (now := c.Now) (lo := w6.heap.size) (hi := w7.heap.size) ho7 (Nat.le_refl _) (Nat.le_refl _))
        clear ho7
        go_wp2
        refine bodyPost_ret (v := .tuple #[.agg #[.int .i64 c.Now, .slice D5 c.Timers.length d5], .bool false]) (by simp [results, Try.results27, go_sem, hc1, hf1]) rfl ⟨[.int .i64 c.Now, .slice D5 c.Timers.length d5], by rw [HS2.out], ?_, by (repeat (first | (with_reducible exact Below.refl _ _) | (with_reducible assumption) | ((with_reducible refine Below.setCell ?_ ?_ _); rotate_left; focus (first | omega | (simp; done) | (simp; omega))) | ((with_reducible refine Below.alloc ?_ ?_ _); rotate_left; focus (first | omega | (simp; done) | (simp; omega))) | (with_reducible refine Below.drew ?_) | (with_reducible refine below_drewN ?_ _) | (refine Below.trans ?_ (Below.mono (by with_reducible assumption) (by (first | omega | (simp; done) | (simp; omega)))))))⟩
        rw [HNo.out HS2.out]
        exact ClockR.own_wide (ClockR.own_off HO.out (by (repeat (first | (with_reducible exact Out.refl _ _) | (with_reducible assumption) | ((with_reducible refine Out.setCell ?_ ?_ _); rotate_left; focus (first | (refine Or.inl ?_; (first | omega | (simp; done) | (simp; omega))) | (refine Or.inr ?_; (first | omega | (simp; done) | (simp; omega))))) | (with_reducible refine Out.alloc ?_ _) | (with_reducible refine Out.drew ?_) | (with_reducible refine Out.drewN ?_ _) | (refine Out.step ?_ (by with_reducible assumption)))))) (inR_mono (by first | omega | (simp; done) | (simp; omega)) (by first | omega | (simp; done) | (simp; omega)))
      have hs : SB = true := by rw [HSB.out, ← HLe.out, hfinal]
      have HS2 := Lib.hid hs
      clear hs hfinal
      go_wp2
      refine bodyPost_ret (v := .tuple #[.agg #[.int .i64 c.Now, .slice (some ⟨gg, 0, none⟩) (L.length + 1) cap], .bool true]) (by simp [results, Try.results27, go_sem, hc1, hf1, hcX, hfX]) rfl ⟨[.int .i64 c.Now, .slice (some ⟨gg, 0, none⟩) (L.length + 1) cap], by rw [HS2.out], ?_, by (repeat (first | (with_reducible exact Below.refl _ _) | (with_reducible assumption) | ((with_reducible refine Below.setCell ?_ ?_ _); rotate_left; focus (first | omega | (simp; done) | (simp; omega))) | ((with_reducible refine Below.alloc ?_ ?_ _); rotate_left; focus (first | omega | (simp; done) | (simp; omega))) | (with_reducible refine Below.drew ?_) | (with_reducible refine below_drewN ?_ _) | (refine Below.trans ?_ (Below.mono (by with_reducible assumption) (by (first | omega | (simp; done) | (simp; omega)))))))⟩
      rw [HY.out HS2.out]
      have HO : Hid (ClockR.Own w6 (InR (w2.heap.size + 3) w6.heap.size) [.int .i64 c.Now, .slice (some ⟨gg, 0, none⟩) (L.length + 1) cap] ⟨c.Now, insT us ⟨at_, id⟩⟩) := Lib.hid (by
        have h5 := own_clock (now := c.Now) (lo := w2.heap.size + 3) (hi := w6.heap.size) (xs := L ++ [(⟨at_, id⟩ : Timer)]) (A := (some ⟨gg, 0, none⟩)) (c := cap) (by rw [HLn.out]; exact ho6) (Nat.le_refl _) (Nat.le_refl _)
        rw [HLn.out] at h5
        rw [← HLe.out]
        exact h5)
      exact ClockR.own_wide (ClockR.own_off HO.out (by (repeat (first | (with_reducible exact Out.refl _ _) | (with_reducible assumption) | ((with_reducible refine Out.setCell ?_ ?_ _); rotate_left; focus (first | (refine Or.inl ?_; (first | omega | (simp; done) | (simp; omega))) | (refine Or.inr ?_; (first | omega | (simp; done) | (simp; omega))))) | (with_reducible refine Out.alloc ?_ _) | (with_reducible refine Out.drew ?_) | (with_reducible refine Out.drewN ?_ _) | (refine Out.step ?_ (by with_reducible assumption)))))) (inR_mono (by first | omega | (simp; done) | (simp; omega)) (by first | omega | (simp; done) | (simp; omega)))
    have hlx : k < us.length := by rw [Hn.out]; exact hlt
    obtain ⟨b, off, rfl, hab, hx⟩ := hrU.elem Timer.len (by omega) hlx hb (Nat.le_refl _)
    have HG := Lib.hid (List.getElem?_eq_getElem hlx)
    generalize us[k]'hlx = s at hx HG
    have hx0 := hx 0 (by omega)
    have hx1 := hx 1 (by omega)
    simp only [Timer.cells, List.getElem?_cons_zero, List.getElem?_cons_succ, Nat.add_zero] at hx0 hx1
    clear hx hlx
    by_cases hpk : p < k
    · have hdp : decide (p < k) = true := decide_eq_true hpk
      rw [hdp]
      have HLn : Hid (L ++ [s] = insK us ⟨at_, id⟩ (k + 1)) := Lib.hid (by rw [insK_behind HG.out (by rw [← HP.out]; exact hpk), HL.out])
      have hpk1 : p < k + 1 := by omega
      clear hdp
      go_wp2_with fail
      have q0 := BKT.later; have q1 := BKW.later; have q2 := later_cell hx0; have q3 := later_cell hx1
      refine wp_region_later (by kernel_rfl) (by kernel_rfl) ?_
      repeat (first | go_big_quiet_step ((fail)) | quiet_step ((fail)))
      refine wpQuiet_nil ?_
      intro w3 hb3
      have hz3 := hb3.size
      replace BK0 := BK0.keep hb3; replace BK1 := BK1.keep hb3; replace BKW := BKW.keep hb3; replace BKT := BKT.keep hb3; replace BO := BO.keep hb3
      replace hx0 : w3.cell? ⟨b, off + k * 2, none⟩ = some (.int .i64 s.At) := (hb3.cell (p := ⟨b, off + k * 2, none⟩) (by show b < _; omega)).trans hx0
      replace hx1 : w3.cell? ⟨b, off + k * 2 + 1, none⟩ = some (.int .i64 s.Id) := (hb3.cell (p := ⟨b, off + k * 2 + 1, none⟩) (by show b < _; omega)).trans hx1
      replace hc1 := BK1.cell; replace hf1 := BK1.frozen; replace hl1 := BK1.lt; replace hc0 := BK0.cell; replace hf0 := BK0.frozen; replace hl0 := BK0.lt; replace hcW := BKW.cell; replace hcT := BKT.cell; replace hcO := BO.cell; replace hfO := BO.frozen; replace hlO := BO.lt
      replace hb : Below w2.heap.size w2 w3 := hb.trans (hb3.mono (by omega))
      replace hiw := own_below hiw hb3
      replace hzr : w2.heap.size + 3 ≤ w3.heap.size := by omega
      clear hbw hiwlt hb3 HI
      have hiwlt : ∀ q, (Value.slice A1 (L.length) c1).ownBlock = some q → w2.heap.size + 3 ≤ q ∧ q < w3.heap.size := fun q e => hiw.lt q e
      have hneT : ∀ q, q < w2.heap.size + 3 → some q ≠ (Value.slice A1 (L.length) c1).ownBlock := fun q hq e => by have := (hiwlt _ e.symm).1; omega
      go_wp2
      have hcA := (BO.alloc (.cells #[.int .i64 s.At, .int .i64 s.Id] 52)).cell
      go_region_law (refine step_append_lies _ (by rfl) _ _ _ (by rfl) (w2.heap.size + 3) 52 i0 _ 2 16 Try.underlying24 hi0 hz0 hz1' hz2' rfl (by omega) (.slice A1 (L.length) c1) (L.length) _ (by rfl) ((hiw.alloc _).drew) ⟨w3.heap.size, 0, none⟩ 1 1 [.int .i64 s.At, .int .i64 s.Id] (by rfl) (by rfl) (World.news_of_block (cs := #[.int .i64 s.At, .int .i64 s.Id]) (t := 52) (fr := (0, 0)) (heap_alloc_new w3 _)) (by simp [Value.oneCell']) (by omega) (by simp only [maxLen]; omega) (by omega) (by simp; omega) (w3.heap.size + 1) (by simp) ?_; intro g2 cap2 w4 hown2 hgrow2 hat2 hlt2; have BX := Blk.grown (BO.alloc (.cells #[.int .i64 s.At, .int .i64 s.Id] 52)).drew hgrow2 (hneT _ (by omega)); have hcX := BX.cell; have hfX := BX.frozen)
      all_goals
        go_wp2
        go_roundw
        case rel =>
          have hzg4 := hgrow2.size
          have hzg5 : w3.heap.size + 1 ≤ w4.heap.size := by simpa using hzg4
          have hbA4 : Below w2.heap.size w2 (w3.alloc (.cells #[.int .i64 s.At, .int .i64 s.Id] 52)).drew := Below.drew (Below.alloc hb (by omega) _)
          refine ⟨k + 1, L ++ [s], some ⟨g2, 0, none⟩, cap2, by omega, by simp; omega, by go_num, by rw [decide_eq_true hpk1], ?_, by simp; omega, ?_, ?_, ?_, ?_, ?_, Lib.hid ?_, Lib.hid HLn.out⟩
          · exact (Below.grown hbA4 hgrow2 (by simp; omega) (fun q e => by have := hiwlt q e; omega)).setCell (by simp; try omega) _
          · exact ((BK0.alloc (.cells #[.int .i64 s.At, .int .i64 s.Id] 52)).drew.grown hgrow2 (hneT _ (by omega))).far (by simp; try omega) _
          · exact ((BK1.alloc (.cells #[.int .i64 s.At, .int .i64 s.Id] 52)).drew.grown hgrow2 (hneT _ (by omega))).far (by simp; try omega) _
          · exact ((BKW.alloc (.cells #[.int .i64 s.At, .int .i64 s.Id] 52)).drew.grown hgrow2 (hneT _ (by omega))).far (by simp; try omega) _
          · exact ((BKT.alloc (.cells #[.int .i64 s.At, .int .i64 s.Id] 52)).drew.grown hgrow2 (hneT _ (by omega))).far (by simp; try omega) _
          · have hB := BX.set_ 1 (.slice (some ⟨g2, 0, none⟩) ((L.length) + 1) cap2)
            simpa using hB
          · rw [List.flatMap_append]
            exact own_setCell (by simpa [Timer.cells] using hown2) (by simp) _
        case measure => simp [intOf]; omega
    have hdp : decide (p < k) = false := decide_eq_false hpk
    rw [hdp]
    have hah := ahead_at (t := (⟨at_, id⟩ : Timer)) HG.out (by rw [← HP.out]; omega)
    rw [← HP.out] at hah
    by_cases hkp : k = p
    have hxw0 : w2.cell? ⟨b, off + k * 2, none⟩ = some (.int .i64 s.At) := (hb.cell (p := ⟨b, off + k * 2, none⟩) hab).symm.trans hx0
    have hxw1 : w2.cell? ⟨b, off + k * 2 + 1, none⟩ = some (.int .i64 s.Id) := (hb.cell (p := ⟨b, off + k * 2 + 1, none⟩) hab).symm.trans hx1
    · have hLk2 : L.length ≤ k := by rw [HL.out]; exact insK_len_not (by rw [← HP.out]; exact hpk)
      rw [decide_eq_true hkp] at hah
      have HC := Lib.hid (fun (n' : Lt wr) => (hah ▸ spec_l07Ahead ⟨at_, id⟩ s (later _ n') : Calls Try.prog 43 #[.agg #[.int .i64 at_, .int .i64 id], .agg #[.int .i64 s.At, .int .i64 s.Id]] (later _ n') fun e w'' => e = .returned (.bool true) ∧ Below (later _ n').heap.size (later _ n') w''))
      have HLn : Hid (L ++ [(⟨at_, id⟩ : Timer)] ++ [s] = insK us ⟨at_, id⟩ (k + 1)) := Lib.hid (by rw [insK_at HG.out (by rw [← HP.out]; exact hkp), HL.out])
      have hpk1 : p < k + 1 := by omega
      clear hah hdp hkp
      go_wp2_with fail
      have q0 := BKT.later; have q1 := BKW.later; have q2 := later_cell hx0; have q3 := later_cell hx1
      refine wp_region_later (by kernel_rfl) (by kernel_rfl) ?_
      repeat (first | go_big_quiet_step ((go_at_call 43; exact Calls.later_of (HC.out _))) | quiet_step ((go_at_call 43; exact Calls.later_of (HC.out _))))
      refine wpQuiet_nil ?_
      intro w3 hb3
      have hz3 := hb3.size
      replace BK0 := BK0.keep hb3; replace BK1 := BK1.keep hb3; replace BKW := BKW.keep hb3; replace BKT := BKT.keep hb3; replace BO := BO.keep hb3
      replace hx0 : w3.cell? ⟨b, off + k * 2, none⟩ = some (.int .i64 s.At) := (hb3.cell (p := ⟨b, off + k * 2, none⟩) (by show b < _; omega)).trans hx0
      replace hx1 : w3.cell? ⟨b, off + k * 2 + 1, none⟩ = some (.int .i64 s.Id) := (hb3.cell (p := ⟨b, off + k * 2 + 1, none⟩) (by show b < _; omega)).trans hx1
      replace hc1 := BK1.cell; replace hf1 := BK1.frozen; replace hl1 := BK1.lt; replace hc0 := BK0.cell; replace hf0 := BK0.frozen; replace hl0 := BK0.lt; replace hcW := BKW.cell; replace hcT := BKT.cell; replace hcO := BO.cell; replace hfO := BO.frozen; replace hlO := BO.lt
      replace hb : Below w2.heap.size w2 w3 := hb.trans (hb3.mono (by omega))
      replace hiw := own_below hiw hb3
      replace hzr : w2.heap.size + 3 ≤ w3.heap.size := by omega
      clear hbw hiwlt hb3 HI
      clear q0 q1 q2 q3 HC
      have hne : ∀ q, q < w2.heap.size + 3 → some q ≠ (Value.slice A1 L.length c1).ownBlock := fun q hq e => by have := (hiw.lt _ e.symm).1; omega
      have hiwlt : ∀ q, (Value.slice A1 L.length c1).ownBlock = some q → w2.heap.size + 3 ≤ q ∧ q < w3.heap.size := fun q e => hiw.lt q e
      go_wp2_with (first | (at_builtin; go_loud (refine wpList_append_own_at _ rfl _ _ 24 rfl (w2.heap.size + 3) 52 i0 _ 2 16 Try.underlying24 hi0 hz0 hz1' hz2' rfl (by decide) _ _ _ rfl (hiw.alloc _) ⟨w3.heap.size, 0, none⟩ 1 1 [.int .i64 at_, .int .i64 id] rfl rfl ?c1 ?c2 ?c3 ?c4 ?c5 ?_; (case c1 => exact (World.news_of_block (cs := #[.int .i64 at_, .int .i64 id]) (t := 52) (fr := (0, 0)) (heap_alloc_new w3 _))); (case c2 => simp [Value.oneCell']); (case c3 => (simp only [maxLen]; omega)); (case c4 => omega); (case c5 => (simp; omega)); intro v' wA hown1 hgrow hnil hat; obtain ⟨gg, cap, rfl, hg1, hg2⟩ := hown1.form (by omega); have BOA := ((BO.alloc (.cells #[.int .i64 at_, .int .i64 id] 52)).grown hgrow (hne _ (by omega))); have hcA := BOA.cell; have hfA := BOA.frozen; have BWA := ((BKW.alloc (.cells #[.int .i64 at_, .int .i64 id] 52)).grown hgrow (hne _ (by omega))); have hcWA := BWA.cell)))
      have hzg := hgrow.size
      have hzg2 : w3.heap.size + 1 ≤ wA.heap.size := by simpa using hzg
      have hbA : Below w2.heap.size w2 (wA.setCell ⟨w2.heap.size + 1, 1, none⟩ (.slice (some ⟨gg, 0, none⟩) (L.length + 1) cap)) := (Below.grown (Below.alloc hb (by omega) (.cells #[.int .i64 at_, .int .i64 id] 52)) hgrow (by simp; omega) (fun q e => by have := hiwlt q e; omega)).setCell (by simp; try omega) _
      have BOB : Blk (wA.setCell ⟨w2.heap.size + 1, 1, none⟩ (.slice (some ⟨gg, 0, none⟩) (L.length + 1) cap)) (w2.heap.size + 1) 26 #[.int .i64 c.Now, .slice (some ⟨gg, 0, none⟩) (L.length + 1) cap] := by simpa using BOA.set_ 1 (.slice (some ⟨gg, 0, none⟩) (L.length + 1) cap)
      have BK0B : Blk (wA.setCell ⟨w2.heap.size + 1, 1, none⟩ (.slice (some ⟨gg, 0, none⟩) (L.length + 1) cap)) w.heap.size 26 #[.int .i64 c.Now, .slice A0 c.Timers.length c0] := ((BK0.alloc (.cells #[.int .i64 at_, .int .i64 id] 52)).grown hgrow (hne _ (by omega))).far (by simp; try omega) _
      have BK1B : Blk (wA.setCell ⟨w2.heap.size + 1, 1, none⟩ (.slice (some ⟨gg, 0, none⟩) (L.length + 1) cap)) (w.heap.size + 1) 26 #[.int .i64 0, .slice none 0 0] := ((BK1.alloc (.cells #[.int .i64 at_, .int .i64 id] 52)).grown hgrow (hne _ (by omega))).far (by simp; try omega) _
      have BKWB : Blk (wA.setCell ⟨w2.heap.size + 1, 1, none⟩ (.slice (some ⟨gg, 0, none⟩) (L.length + 1) cap)) w2.heap.size 26 #[.int .i64 c.Now, .slice (some ⟨b, off, none⟩) n do_] := ((BKW.alloc (.cells #[.int .i64 at_, .int .i64 id] 52)).grown hgrow (hne _ (by omega))).far (by simp; try omega) _
      have BKTB : Blk (wA.setCell ⟨w2.heap.size + 1, 1, none⟩ (.slice (some ⟨gg, 0, none⟩) (L.length + 1) cap)) (w2.heap.size + 1 + 1) 52 #[.int .i64 at_, .int .i64 id] := ((BKT.alloc (.cells #[.int .i64 at_, .int .i64 id] 52)).grown hgrow (hne _ (by omega))).far (by simp; try omega) _
      have howA : World.ownsRow (wA.setCell ⟨w2.heap.size + 1, 1, none⟩ (.slice (some ⟨gg, 0, none⟩) (L.length + 1) cap)) (w2.heap.size + 3) 52 2 (.slice (some ⟨gg, 0, none⟩) (L.length + 1) cap) (L.length + 1) ((L ++ [(⟨at_, id⟩ : Timer)]).flatMap Timer.cells) := own_setCell (by rw [List.flatMap_append]; simpa [Timer.cells] using hown1) (by simp) _
      have hzW : w3.heap.size + 1 ≤ (wA.setCell ⟨w2.heap.size + 1, 1, none⟩ (.slice (some ⟨gg, 0, none⟩) (L.length + 1) cap)).heap.size := by simp; omega
      have hy0 : (wA.setCell ⟨w2.heap.size + 1, 1, none⟩ (.slice (some ⟨gg, 0, none⟩) (L.length + 1) cap)).cell? ⟨b, off + k * 2, none⟩ = some (.int .i64 s.At) := (hbA.cell (p := ⟨b, off + k * 2, none⟩) hab).trans hxw0
      have hy1 : (wA.setCell ⟨w2.heap.size + 1, 1, none⟩ (.slice (some ⟨gg, 0, none⟩) (L.length + 1) cap)).cell? ⟨b, off + k * 2 + 1, none⟩ = some (.int .i64 s.Id) := (hbA.cell (p := ⟨b, off + k * 2 + 1, none⟩) hab).trans hxw1
      generalize (wA.setCell ⟨w2.heap.size + 1, 1, none⟩ (.slice (some ⟨gg, 0, none⟩) (L.length + 1) cap)) = ws at *
      clear hb BK0 BK1 BKW BKT BO BOA BWA hc0 hf0 hl0 hc1 hf1 hl1 hcO hfO hlO hcA hfA hcW hcT hcWA hown1 hgrow hiw hiwlt hne hx0 hx1
      have hb := hbA; have hiw := howA; have BO := BOB; have BK0 := BK0B; have BK1 := BK1B; have BKW := BKWB; have BKT := BKTB
      clear hbA howA BOB BK0B BK1B BKWB BKTB
      have hcW := BKW.cell; have hcT := BKT.cell; have hcO := BO.cell; have hfO := BO.frozen; have hlO := BO.lt
      have hiwlt : ∀ q, (Value.slice (some ⟨gg, 0, none⟩) (L.length + 1) cap).ownBlock = some q → w2.heap.size + 3 ≤ q ∧ q < ws.heap.size := fun q e => hiw.lt q e
      have hneT : ∀ q, q < w2.heap.size + 3 → some q ≠ (Value.slice (some ⟨gg, 0, none⟩) (L.length + 1) cap).ownBlock := fun q hq e => by have := (hiwlt _ e.symm).1; omega
      go_wp2
      have hcA := (BO.alloc (.cells #[.int .i64 s.At, .int .i64 s.Id] 52)).cell
      go_region_law (refine step_append_lies _ (by rfl) _ _ _ (by rfl) (w2.heap.size + 3) 52 i0 _ 2 16 Try.underlying24 hi0 hz0 hz1' hz2' rfl (by omega) (.slice (some ⟨gg, 0, none⟩) (L.length + 1) cap) (L.length + 1) _ (by rfl) ((hiw.alloc _).drew) ⟨ws.heap.size, 0, none⟩ 1 1 [.int .i64 s.At, .int .i64 s.Id] (by rfl) (by rfl) (World.news_of_block (cs := #[.int .i64 s.At, .int .i64 s.Id]) (t := 52) (fr := (0, 0)) (heap_alloc_new ws _)) (by simp [Value.oneCell']) (by omega) (by simp only [maxLen]; omega) (by omega) (by simp; omega) (ws.heap.size + 1) (by simp) ?_; intro g2 cap2 w4 hown2 hgrow2 hat2 hlt2; have BX := Blk.grown (BO.alloc (.cells #[.int .i64 s.At, .int .i64 s.Id] 52)).drew hgrow2 (hneT _ (by omega)); have hcX := BX.cell; have hfX := BX.frozen)
      all_goals
        go_wp2
        go_roundw
        case rel =>
          have hzg4 := hgrow2.size
          have hzg5 : ws.heap.size + 1 ≤ w4.heap.size := by simpa using hzg4
          have hbA4 : Below w2.heap.size w2 (ws.alloc (.cells #[.int .i64 s.At, .int .i64 s.Id] 52)).drew := Below.drew (Below.alloc hb (by omega) _)
          refine ⟨k + 1, L ++ [(⟨at_, id⟩ : Timer)] ++ [s], some ⟨g2, 0, none⟩, cap2, by omega, by simp; omega, by go_num, by rw [decide_eq_true hpk1], ?_, by simp; omega, ?_, ?_, ?_, ?_, ?_, Lib.hid ?_, Lib.hid HLn.out⟩
          · exact (Below.grown hbA4 hgrow2 (by simp; omega) (fun q e => by have := hiwlt q e; omega)).setCell (by simp; try omega) _
          · exact ((BK0.alloc (.cells #[.int .i64 s.At, .int .i64 s.Id] 52)).drew.grown hgrow2 (hneT _ (by omega))).far (by simp; try omega) _
          · exact ((BK1.alloc (.cells #[.int .i64 s.At, .int .i64 s.Id] 52)).drew.grown hgrow2 (hneT _ (by omega))).far (by simp; try omega) _
          · exact ((BKW.alloc (.cells #[.int .i64 s.At, .int .i64 s.Id] 52)).drew.grown hgrow2 (hneT _ (by omega))).far (by simp; try omega) _
          · exact ((BKT.alloc (.cells #[.int .i64 s.At, .int .i64 s.Id] 52)).drew.grown hgrow2 (hneT _ (by omega))).far (by simp; try omega) _
          · have hB := BX.set_ 1 (.slice (some ⟨g2, 0, none⟩) ((L.length + 1) + 1) cap2)
            simpa using hB
          · rw [List.flatMap_append]
            exact own_setCell (by simpa [Timer.cells] using hown2) (by simp) _
        case measure => simp [intOf]; omega
    rw [decide_eq_false hkp] at hah
    have HC := Lib.hid (fun (n' : Lt wr) => (hah ▸ spec_l07Ahead ⟨at_, id⟩ s (later _ n') : Calls Try.prog 43 #[.agg #[.int .i64 at_, .int .i64 id], .agg #[.int .i64 s.At, .int .i64 s.Id]] (later _ n') fun e w'' => e = .returned (.bool false) ∧ Below (later _ n').heap.size (later _ n') w''))
    have HLn : Hid (L ++ [s] = insK us ⟨at_, id⟩ (k + 1)) := Lib.hid (by rw [insK_before HG.out (by rw [← HP.out]; omega), HL.out])
    have hpk1 : ¬ p < k + 1 := by omega
    clear hah hdp hkp
    go_wp2_with fail
    have q0 := BKT.later; have q1 := BKW.later; have q2 := later_cell hx0; have q3 := later_cell hx1
    refine wp_region_later (by kernel_rfl) (by kernel_rfl) ?_
    repeat (first | go_big_quiet_step ((go_at_call 43; exact Calls.later_of (HC.out _))) | quiet_step ((go_at_call 43; exact Calls.later_of (HC.out _))))
    refine wpQuiet_nil ?_
    intro w3 hb3
    have hz3 := hb3.size
    replace BK0 := BK0.keep hb3; replace BK1 := BK1.keep hb3; replace BKW := BKW.keep hb3; replace BKT := BKT.keep hb3; replace BO := BO.keep hb3
    replace hx0 : w3.cell? ⟨b, off + k * 2, none⟩ = some (.int .i64 s.At) := (hb3.cell (p := ⟨b, off + k * 2, none⟩) (by show b < _; omega)).trans hx0
    replace hx1 : w3.cell? ⟨b, off + k * 2 + 1, none⟩ = some (.int .i64 s.Id) := (hb3.cell (p := ⟨b, off + k * 2 + 1, none⟩) (by show b < _; omega)).trans hx1
    replace hc1 := BK1.cell; replace hf1 := BK1.frozen; replace hl1 := BK1.lt; replace hc0 := BK0.cell; replace hf0 := BK0.frozen; replace hl0 := BK0.lt; replace hcW := BKW.cell; replace hcT := BKT.cell; replace hcO := BO.cell; replace hfO := BO.frozen; replace hlO := BO.lt
    replace hb : Below w2.heap.size w2 w3 := hb.trans (hb3.mono (by omega))
    replace hiw := own_below hiw hb3
    replace hzr : w2.heap.size + 3 ≤ w3.heap.size := by omega
    clear hbw hiwlt hb3 HI
    clear q0 q1 q2 q3 HC
    have hiwlt : ∀ q, (Value.slice A1 (L.length) c1).ownBlock = some q → w2.heap.size + 3 ≤ q ∧ q < w3.heap.size := fun q e => hiw.lt q e
    have hneT : ∀ q, q < w2.heap.size + 3 → some q ≠ (Value.slice A1 (L.length) c1).ownBlock := fun q hq e => by have := (hiwlt _ e.symm).1; omega
    go_wp2
    have hcA := (BO.alloc (.cells #[.int .i64 s.At, .int .i64 s.Id] 52)).cell
    go_region_law (refine step_append_lies _ (by rfl) _ _ _ (by rfl) (w2.heap.size + 3) 52 i0 _ 2 16 Try.underlying24 hi0 hz0 hz1' hz2' rfl (by omega) (.slice A1 (L.length) c1) (L.length) _ (by rfl) ((hiw.alloc _).drew) ⟨w3.heap.size, 0, none⟩ 1 1 [.int .i64 s.At, .int .i64 s.Id] (by rfl) (by rfl) (World.news_of_block (cs := #[.int .i64 s.At, .int .i64 s.Id]) (t := 52) (fr := (0, 0)) (heap_alloc_new w3 _)) (by simp [Value.oneCell']) (by omega) (by simp only [maxLen]; omega) (by omega) (by simp; omega) (w3.heap.size + 1) (by simp) ?_; intro g2 cap2 w4 hown2 hgrow2 hat2 hlt2; have BX := Blk.grown (BO.alloc (.cells #[.int .i64 s.At, .int .i64 s.Id] 52)).drew hgrow2 (hneT _ (by omega)); have hcX := BX.cell; have hfX := BX.frozen)
    all_goals
      go_wp2
      go_roundw
      case rel =>
        have hzg4 := hgrow2.size
        have hzg5 : w3.heap.size + 1 ≤ w4.heap.size := by simpa using hzg4
        have hbA4 : Below w2.heap.size w2 (w3.alloc (.cells #[.int .i64 s.At, .int .i64 s.Id] 52)).drew := Below.drew (Below.alloc hb (by omega) _)
        refine ⟨k + 1, L ++ [s], some ⟨g2, 0, none⟩, cap2, by omega, by simp; omega, by go_num, by rw [decide_eq_false hpk1], ?_, by simp; omega, ?_, ?_, ?_, ?_, ?_, Lib.hid ?_, Lib.hid HLn.out⟩
        · exact (Below.grown hbA4 hgrow2 (by simp; omega) (fun q e => by have := hiwlt q e; omega)).setCell (by simp; try omega) _
        · exact ((BK0.alloc (.cells #[.int .i64 s.At, .int .i64 s.Id] 52)).drew.grown hgrow2 (hneT _ (by omega))).far (by simp; try omega) _
        · exact ((BK1.alloc (.cells #[.int .i64 s.At, .int .i64 s.Id] 52)).drew.grown hgrow2 (hneT _ (by omega))).far (by simp; try omega) _
        · exact ((BKW.alloc (.cells #[.int .i64 s.At, .int .i64 s.Id] 52)).drew.grown hgrow2 (hneT _ (by omega))).far (by simp; try omega) _
        · exact ((BKT.alloc (.cells #[.int .i64 s.At, .int .i64 s.Id] 52)).drew.grown hgrow2 (hneT _ (by omega))).far (by simp; try omega) _
        · have hB := BX.set_ 1 (.slice (some ⟨g2, 0, none⟩) ((L.length) + 1) cap2)
          simpa using hB
        · rw [List.flatMap_append]
          exact own_setCell (by simpa [Timer.cells] using hown2) (by simp) _
      case measure => simp [intOf]; omega
end Go.Proofs.Ythahnaigdoiddaa

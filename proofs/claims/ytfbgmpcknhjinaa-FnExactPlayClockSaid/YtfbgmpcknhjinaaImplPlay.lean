/- PlayClock of the program. -/
import Derived.Test.YtfbgmpcknhjinaaPlayLib
import Derived.Test.YtfbgmpcknhjinaaImplSet
import Derived.Test.YtfbgmpcknhjinaaImplStop
import Derived.Deep.DeepCutAuto
set_option linter.unusedSimpArgs false
set_option linter.unusedVariables false
set_option maxRecDepth 20000
namespace Go.Proofs.Ytfbgmpcknhjinaa
open Go.RowKit
set_option maxHeartbeats 6400000 in
theorem impl_PlayClockL (cs : List Value) (c : Clock) (v : Value) (ops : List ClockOp) (w : World) (h : ClockR.Rd w w.heap.size cs c) (h2 : SlRd ClockOpR w w.heap.size v ops) (hm : ClockR.sz c ≤ 1048576) (hm2 : szList ClockOpR ops ≤ 1048576) :
    Calls Try.prog 22 #[.agg cs.toArray, v] w fun e w' => ∃ cs' v', e = .returned (.tuple #[.agg cs'.toArray, v']) ∧ PairC w' w.heap.size cs' (playC c ops) v' (playI c ops) ∧ Below w.heap.size w w' := by
  obtain ⟨v0, rfl, q0⟩ := rd_Clock h
  obtain ⟨A0, c0, rfl⟩ := q0.form
  obtain ⟨Ao, co, rfl⟩ := SlRd.form h2
  obtain ⟨j0, hj0, hJ0, hJ1, hJ2⟩ := info_parts info_int
  have hml : ops.length ≤ 1048576 := Nat.le_trans (Nat.le_add_right _ _) hm2
  have HQ := Lib.hid (ClkIn.of_arg q0 (X := fun g => (Value.slice none 0 0).ownBlock = some g) (fun b hb => by simp [Value.ownBlock] at hb))
  have HOk := Lib.hid (fun (w' : World) (hr : ClockR.Rd w' w'.heap.size [.int .i64 c.Now, .slice A0 c.Timers.length c0] c) => impl_isClock2 _ c w' hr hm)
  have HCl := Lib.hid (fun (w' : World) (hr : ClockR.Rd w' w'.heap.size [.int .i64 c.Now, .slice A0 c.Timers.length c0] c) => impl_cloneClock _ c w' hr hm)
  have HR := Lib.hid (fun (w' : World) (hb : Below w.heap.size w w') (hz : w.heap.size ≤ w'.heap.size) => ClockR.rd_keep h hb hz)
  have HRo := Lib.hid (fun (w' : World) (hb : Below w.heap.size w w') => h2.below hb (Nat.le_refl _))
  generalize hn0 : c.Timers.length = n0 at *
  have N0 := Lib.hid hn0
  have HLo := Lib.hid (fun h => opsOk_long (c := c) (ops := ops) h)
  have HOy := Lib.hid (fun h1 h2 => opsOk_yes (c := c) (ops := ops) h1 h2)
  generalize hn : ops.length = n at *
  have Hn := Lib.hid hn
  clear hn hn0 h h2 q0 hm hm2
  cases hok : clockOk c.Now c.Timers
  · have HOP := Lib.hid (opsOk_bad (ops := ops) hok)
    rw [hok] at HOk
    clear hok
    have HN := Lib.hid (play_no HOP.out)
    rw [HN.out.1, HN.out.2]
    go_enter Try.func22, Try.ntmps22
    go_wp2_with fail
    refine (HOk.out _ (HR.out _ (by (repeat (first | (with_reducible exact Below.refl _ _) | (with_reducible assumption) | ((with_reducible refine Below.setCell ?_ ?_ _); rotate_left; focus (first | omega | (simp; done) | (simp; omega))) | ((with_reducible refine Below.alloc ?_ ?_ _); rotate_left; focus (first | omega | (simp; done) | (simp; omega))) | (with_reducible refine Below.drew ?_) | (with_reducible refine below_drewN ?_ _) | (refine Below.trans ?_ (Below.mono (by with_reducible assumption) (by (first | omega | (simp; done) | (simp; omega)))))))) (by first | omega | (simp; done) | (simp; omega)))).mono ?_
    rintro e w1 ⟨rfl, hb1⟩
    have hz1 := hb1.size; try simp at hz1
    have BK0 : Blk w1 w.heap.size 28 #[.int .i64 c.Now, .slice A0 n0 c0] := by (repeat (first | (with_reducible assumption) | ((with_reducible refine Blk.new' ?_); focus (simp; done)) | (with_reducible refine Blk.alloc ?_ _) | (with_reducible refine Blk.drew ?_) | (with_reducible refine Blk.drewN ?_ _) | ((with_reducible refine Blk.far ?_ ?_ _); rotate_left; focus (first | omega | (simp; done) | (simp; omega))) | (refine Blk.keep ?_ (by with_reducible assumption)) | (refine Blk.below ?_ (by with_reducible assumption) (by (first | omega | (simp; done) | (simp; omega))))))
    have BK1 : Blk w1 (w.heap.size + 1) 28 #[.int .i64 0, .slice none 0 0] := by (repeat (first | (with_reducible assumption) | ((with_reducible refine Blk.new' ?_); focus (simp; done)) | (with_reducible refine Blk.alloc ?_ _) | (with_reducible refine Blk.drew ?_) | (with_reducible refine Blk.drewN ?_ _) | ((with_reducible refine Blk.far ?_ ?_ _); rotate_left; focus (first | omega | (simp; done) | (simp; omega))) | (refine Blk.keep ?_ (by with_reducible assumption)) | (refine Blk.below ?_ (by with_reducible assumption) (by (first | omega | (simp; done) | (simp; omega))))))
    have hc0 := BK0.cell; have hf0 := BK0.frozen; have hl0 := BK0.lt; have hc1 := BK1.cell; have hf1 := BK1.frozen; have hl1 := BK1.lt
    go_wp2_with fail
    refine (HCl.out _ (HR.out _ (by (repeat (first | (with_reducible exact Below.refl _ _) | (with_reducible assumption) | ((with_reducible refine Below.setCell ?_ ?_ _); rotate_left; focus (first | omega | (simp; done) | (simp; omega))) | ((with_reducible refine Below.alloc ?_ ?_ _); rotate_left; focus (first | omega | (simp; done) | (simp; omega))) | (with_reducible refine Below.drew ?_) | (with_reducible refine below_drewN ?_ _) | (refine Below.trans ?_ (Below.mono (by with_reducible assumption) (by (first | omega | (simp; done) | (simp; omega)))))))) (by first | omega | (simp; done) | (simp; omega)))).mono ?_
    rintro e w2 ⟨D, d, rfl, ho2, hb2⟩
    have hz2 := hb2.size; try simp at hz2
    replace BK0 : Blk w2 w.heap.size 28 #[.int .i64 c.Now, .slice A0 n0 c0] := by (repeat (first | (with_reducible assumption) | ((with_reducible refine Blk.new' ?_); focus (simp; done)) | (with_reducible refine Blk.alloc ?_ _) | (with_reducible refine Blk.drew ?_) | (with_reducible refine Blk.drewN ?_ _) | ((with_reducible refine Blk.far ?_ ?_ _); rotate_left; focus (first | omega | (simp; done) | (simp; omega))) | (refine Blk.keep ?_ (by with_reducible assumption)) | (refine Blk.below ?_ (by with_reducible assumption) (by (first | omega | (simp; done) | (simp; omega))))))
    replace BK1 : Blk w2 (w.heap.size + 1) 28 #[.int .i64 0, .slice none 0 0] := by (repeat (first | (with_reducible assumption) | ((with_reducible refine Blk.new' ?_); focus (simp; done)) | (with_reducible refine Blk.alloc ?_ _) | (with_reducible refine Blk.drew ?_) | (with_reducible refine Blk.drewN ?_ _) | ((with_reducible refine Blk.far ?_ ?_ _); rotate_left; focus (first | omega | (simp; done) | (simp; omega))) | (refine Blk.keep ?_ (by with_reducible assumption)) | (refine Blk.below ?_ (by with_reducible assumption) (by (first | omega | (simp; done) | (simp; omega))))))
    replace hc0 := BK0.cell; replace hf0 := BK0.frozen; replace hl0 := BK0.lt; replace hc1 := BK1.cell; replace hf1 := BK1.frozen; replace hl1 := BK1.lt
    go_wp2
    refine bodyPost_ret (v := .tuple #[.agg #[.int .i64 c.Now, .slice D n0 d], .slice none 0 0]) (by simp [results, Try.results22, go_sem, hc1, hf1]) rfl ⟨[.int .i64 c.Now, .slice D n0 d], .slice none 0 0, rfl, ?_, by (repeat (first | (with_reducible exact Below.refl _ _) | (with_reducible assumption) | ((with_reducible refine Below.setCell ?_ ?_ _); rotate_left; focus (first | omega | (simp; done) | (simp; omega))) | ((with_reducible refine Below.alloc ?_ ?_ _); rotate_left; focus (first | omega | (simp; done) | (simp; omega))) | (with_reducible refine Below.drew ?_) | (with_reducible refine below_drewN ?_ _) | (refine Below.trans ?_ (Below.mono (by with_reducible assumption) (by (first | omega | (simp; done) | (simp; omega)))))))⟩
    refine PairC.of (own_base (base := w1.heap.size + 2) ?_ (by omega)) N0.out (World.ownsRow_nil _ _ _ _) rfl (fun g _ => by simp [Value.ownBlock])
    (repeat (first | (with_reducible exact ho2) | ((with_reducible refine own_setCell ?_ ?_ _); rotate_left; focus (first | omega | (simp; done) | (simp; omega))) | (with_reducible refine World.ownsRow.alloc ?_ _) | (with_reducible refine own_drew ?_) | (with_reducible refine own_drewN ?_ _) | (refine own_below ?_ (by with_reducible assumption))))
  by_cases hlen : n ≤ 200
  rotate_left
  · have HOP := Lib.hid (HLo.out hlen)
    have hd : decide ((200 : Int) < (n : Int)) = true := by simp; omega
    rw [hok] at HOk
    clear hok
    have HN := Lib.hid (play_no HOP.out)
    rw [HN.out.1, HN.out.2]
    go_enter Try.func22, Try.ntmps22
    go_wp2_with fail
    refine (HOk.out _ (HR.out _ (by (repeat (first | (with_reducible exact Below.refl _ _) | (with_reducible assumption) | ((with_reducible refine Below.setCell ?_ ?_ _); rotate_left; focus (first | omega | (simp; done) | (simp; omega))) | ((with_reducible refine Below.alloc ?_ ?_ _); rotate_left; focus (first | omega | (simp; done) | (simp; omega))) | (with_reducible refine Below.drew ?_) | (with_reducible refine below_drewN ?_ _) | (refine Below.trans ?_ (Below.mono (by with_reducible assumption) (by (first | omega | (simp; done) | (simp; omega)))))))) (by first | omega | (simp; done) | (simp; omega)))).mono ?_
    rintro e w1 ⟨rfl, hb1⟩
    have hz1 := hb1.size; try simp at hz1
    have BK0 : Blk w1 w.heap.size 28 #[.int .i64 c.Now, .slice A0 n0 c0] := by (repeat (first | (with_reducible assumption) | ((with_reducible refine Blk.new' ?_); focus (simp; done)) | (with_reducible refine Blk.alloc ?_ _) | (with_reducible refine Blk.drew ?_) | (with_reducible refine Blk.drewN ?_ _) | ((with_reducible refine Blk.far ?_ ?_ _); rotate_left; focus (first | omega | (simp; done) | (simp; omega))) | (refine Blk.keep ?_ (by with_reducible assumption)) | (refine Blk.below ?_ (by with_reducible assumption) (by (first | omega | (simp; done) | (simp; omega))))))
    have BK1 : Blk w1 (w.heap.size + 1) 28 #[.int .i64 0, .slice none 0 0] := by (repeat (first | (with_reducible assumption) | ((with_reducible refine Blk.new' ?_); focus (simp; done)) | (with_reducible refine Blk.alloc ?_ _) | (with_reducible refine Blk.drew ?_) | (with_reducible refine Blk.drewN ?_ _) | ((with_reducible refine Blk.far ?_ ?_ _); rotate_left; focus (first | omega | (simp; done) | (simp; omega))) | (refine Blk.keep ?_ (by with_reducible assumption)) | (refine Blk.below ?_ (by with_reducible assumption) (by (first | omega | (simp; done) | (simp; omega))))))
    have hc0 := BK0.cell; have hf0 := BK0.frozen; have hl0 := BK0.lt; have hc1 := BK1.cell; have hf1 := BK1.frozen; have hl1 := BK1.lt
    go_wp2_with fail
    refine (HCl.out _ (HR.out _ (by (repeat (first | (with_reducible exact Below.refl _ _) | (with_reducible assumption) | ((with_reducible refine Below.setCell ?_ ?_ _); rotate_left; focus (first | omega | (simp; done) | (simp; omega))) | ((with_reducible refine Below.alloc ?_ ?_ _); rotate_left; focus (first | omega | (simp; done) | (simp; omega))) | (with_reducible refine Below.drew ?_) | (with_reducible refine below_drewN ?_ _) | (refine Below.trans ?_ (Below.mono (by with_reducible assumption) (by (first | omega | (simp; done) | (simp; omega)))))))) (by first | omega | (simp; done) | (simp; omega)))).mono ?_
    rintro e w2 ⟨D, d, rfl, ho2, hb2⟩
    have hz2 := hb2.size; try simp at hz2
    replace BK0 : Blk w2 w.heap.size 28 #[.int .i64 c.Now, .slice A0 n0 c0] := by (repeat (first | (with_reducible assumption) | ((with_reducible refine Blk.new' ?_); focus (simp; done)) | (with_reducible refine Blk.alloc ?_ _) | (with_reducible refine Blk.drew ?_) | (with_reducible refine Blk.drewN ?_ _) | ((with_reducible refine Blk.far ?_ ?_ _); rotate_left; focus (first | omega | (simp; done) | (simp; omega))) | (refine Blk.keep ?_ (by with_reducible assumption)) | (refine Blk.below ?_ (by with_reducible assumption) (by (first | omega | (simp; done) | (simp; omega))))))
    replace BK1 : Blk w2 (w.heap.size + 1) 28 #[.int .i64 0, .slice none 0 0] := by (repeat (first | (with_reducible assumption) | ((with_reducible refine Blk.new' ?_); focus (simp; done)) | (with_reducible refine Blk.alloc ?_ _) | (with_reducible refine Blk.drew ?_) | (with_reducible refine Blk.drewN ?_ _) | ((with_reducible refine Blk.far ?_ ?_ _); rotate_left; focus (first | omega | (simp; done) | (simp; omega))) | (refine Blk.keep ?_ (by with_reducible assumption)) | (refine Blk.below ?_ (by with_reducible assumption) (by (first | omega | (simp; done) | (simp; omega))))))
    replace hc0 := BK0.cell; replace hf0 := BK0.frozen; replace hl0 := BK0.lt; replace hc1 := BK1.cell; replace hf1 := BK1.frozen; replace hl1 := BK1.lt
    go_wp2
    refine bodyPost_ret (v := .tuple #[.agg #[.int .i64 c.Now, .slice D n0 d], .slice none 0 0]) (by simp [results, Try.results22, go_sem, hc1, hf1]) rfl ⟨[.int .i64 c.Now, .slice D n0 d], .slice none 0 0, rfl, ?_, by (repeat (first | (with_reducible exact Below.refl _ _) | (with_reducible assumption) | ((with_reducible refine Below.setCell ?_ ?_ _); rotate_left; focus (first | omega | (simp; done) | (simp; omega))) | ((with_reducible refine Below.alloc ?_ ?_ _); rotate_left; focus (first | omega | (simp; done) | (simp; omega))) | (with_reducible refine Below.drew ?_) | (with_reducible refine below_drewN ?_ _) | (refine Below.trans ?_ (Below.mono (by with_reducible assumption) (by (first | omega | (simp; done) | (simp; omega)))))))⟩
    refine PairC.of (own_base (base := w1.heap.size + 2) ?_ (by omega)) N0.out (World.ownsRow_nil _ _ _ _) rfl (fun g _ => by simp [Value.ownBlock])
    (repeat (first | (with_reducible exact ho2) | ((with_reducible refine own_setCell ?_ ?_ _); rotate_left; focus (first | omega | (simp; done) | (simp; omega))) | (with_reducible refine World.ownsRow.alloc ?_ _) | (with_reducible refine own_drew ?_) | (with_reducible refine own_drewN ?_ _) | (refine own_below ?_ (by with_reducible assumption))))
  have HOK := Lib.hid hok
  have HY := Lib.hid (play_yes (HOy.out hok hlen))
  have hd : decide ((200 : Int) < (n : Int)) = false := by simp; omega
  rw [hok] at HOk
  clear hok
  rw [HY.out.1, HY.out.2]
  have HFin : Hid (runP c ops = runP c (ops.take n)) := Lib.hid (by rw [← Hn.out, List.take_length])
  go_enter Try.func22, Try.ntmps22
  go_wp2_with fail
  refine (HOk.out _ (HR.out _ (by (repeat (first | (with_reducible exact Below.refl _ _) | (with_reducible assumption) | ((with_reducible refine Below.setCell ?_ ?_ _); rotate_left; focus (first | omega | (simp; done) | (simp; omega))) | ((with_reducible refine Below.alloc ?_ ?_ _); rotate_left; focus (first | omega | (simp; done) | (simp; omega))) | (with_reducible refine Below.drew ?_) | (with_reducible refine below_drewN ?_ _) | (refine Below.trans ?_ (Below.mono (by with_reducible assumption) (by (first | omega | (simp; done) | (simp; omega)))))))) (by first | omega | (simp; done) | (simp; omega)))).mono ?_
  rintro e w1 ⟨rfl, hb1⟩
  have hz1 := hb1.size; try simp at hz1
  have BK0 : Blk w1 w.heap.size 28 #[.int .i64 c.Now, .slice A0 n0 c0] := by (repeat (first | (with_reducible assumption) | ((with_reducible refine Blk.new' ?_); focus (simp; done)) | (with_reducible refine Blk.alloc ?_ _) | (with_reducible refine Blk.drew ?_) | (with_reducible refine Blk.drewN ?_ _) | ((with_reducible refine Blk.far ?_ ?_ _); rotate_left; focus (first | omega | (simp; done) | (simp; omega))) | (refine Blk.keep ?_ (by with_reducible assumption)) | (refine Blk.below ?_ (by with_reducible assumption) (by (first | omega | (simp; done) | (simp; omega))))))
  have BK1 : Blk w1 (w.heap.size + 1) 28 #[.int .i64 0, .slice none 0 0] := by (repeat (first | (with_reducible assumption) | ((with_reducible refine Blk.new' ?_); focus (simp; done)) | (with_reducible refine Blk.alloc ?_ _) | (with_reducible refine Blk.drew ?_) | (with_reducible refine Blk.drewN ?_ _) | ((with_reducible refine Blk.far ?_ ?_ _); rotate_left; focus (first | omega | (simp; done) | (simp; omega))) | (refine Blk.keep ?_ (by with_reducible assumption)) | (refine Blk.below ?_ (by with_reducible assumption) (by (first | omega | (simp; done) | (simp; omega))))))
  have hc0 := BK0.cell; have hf0 := BK0.frozen; have hl0 := BK0.lt; have hc1 := BK1.cell; have hf1 := BK1.frozen; have hl1 := BK1.lt
  have hbw1 : Below w.heap.size w w1 := by (repeat (first | (with_reducible exact Below.refl _ _) | (with_reducible assumption) | ((with_reducible refine Below.setCell ?_ ?_ _); rotate_left; focus (first | omega | (simp; done) | (simp; omega))) | ((with_reducible refine Below.alloc ?_ ?_ _); rotate_left; focus (first | omega | (simp; done) | (simp; omega))) | (with_reducible refine Below.drew ?_) | (with_reducible refine below_drewN ?_ _) | (refine Below.trans ?_ (Below.mono (by with_reducible assumption) (by (first | omega | (simp; done) | (simp; omega)))))))
  have hq1 := HQ.out.keep hbw1
  clear hb1
  go_wp2
  go_loopw [6, 23] (fun al i wr => ∃ (k : Nat) (cur : Clock) (A : Option Addr) (t d m : Nat) (B : Option Addr) (dB : Nat) (ys : List Int), k ≤ n ∧ m ≤ 300 * k ∧ i = .int .i64 k ∧ al = .slice B m dB ∧ Below w.heap.size w wr ∧ w.heap.size + 2 ≤ wr.heap.size ∧ Blk wr w.heap.size 28 #[.int .i64 cur.Now, .slice A t d] ∧ Blk wr (w.heap.size + 1) 28 #[.int .i64 0, .slice none 0 0] ∧ Hid (cur.Timers.length = t) ∧ Hid (ys.length = m) ∧ Hid (wr.ownsRow (w.heap.size + 2) 3 1 (.slice B m dB) m (ys.map intV)) ∧ Hid (ClkIn wr (fun g => (Value.slice B m dB).ownBlock = some g) A d cur.Timers) ∧ Hid (runP c (ops.take k) = (cur, ys)) ∧ Hid (clockOk cur.Now cur.Timers = true)) (fun _ i _ => n - (intOf i).toNat)
  case atStart => exact ⟨0, c, A0, n0, c0, 0, none, 0, [], Nat.zero_le _, Nat.le_refl _, rfl, rfl, by (repeat (first | (with_reducible exact Below.refl _ _) | (with_reducible assumption) | ((with_reducible refine Below.setCell ?_ ?_ _); rotate_left; focus (first | omega | (simp; done) | (simp; omega))) | ((with_reducible refine Below.alloc ?_ ?_ _); rotate_left; focus (first | omega | (simp; done) | (simp; omega))) | (with_reducible refine Below.drew ?_) | (with_reducible refine below_drewN ?_ _) | (refine Below.trans ?_ (Below.mono (by with_reducible assumption) (by (first | omega | (simp; done) | (simp; omega))))))), by omega, by (repeat (first | (with_reducible assumption) | ((with_reducible refine Blk.new' ?_); focus (simp; done)) | (with_reducible refine Blk.alloc ?_ _) | (with_reducible refine Blk.drew ?_) | (with_reducible refine Blk.drewN ?_ _) | ((with_reducible refine Blk.far ?_ ?_ _); rotate_left; focus (first | omega | (simp; done) | (simp; omega))) | (refine Blk.keep ?_ (by with_reducible assumption)) | (refine Blk.below ?_ (by with_reducible assumption) (by (first | omega | (simp; done) | (simp; omega)))))), by (repeat (first | (with_reducible assumption) | ((with_reducible refine Blk.new' ?_); focus (simp; done)) | (with_reducible refine Blk.alloc ?_ _) | (with_reducible refine Blk.drew ?_) | (with_reducible refine Blk.drewN ?_ _) | ((with_reducible refine Blk.far ?_ ?_ _); rotate_left; focus (first | omega | (simp; done) | (simp; omega))) | (refine Blk.keep ?_ (by with_reducible assumption)) | (refine Blk.below ?_ (by with_reducible assumption) (by (first | omega | (simp; done) | (simp; omega)))))), N0, Lib.hid rfl, Lib.hid (World.ownsRow_nil _ _ _ _), Lib.hid hq1, Lib.hid rfl, HOK⟩
  case round =>
    clear hbw1 hq1 BK0 BK1 hc0 hf0 hl0 hc1 hf1 hl1
    obtain ⟨k, cur, A, t, d, m, B, dB, ys, hk, hmk, rfl, rfl, hb, hzr, BK0, BK1, HT, HYs, HI, HC, HRun0, HOK2⟩ := hrel
    have hc0 := BK0.cell; have hf0 := BK0.frozen; have hl0 := BK0.lt; have hc1 := BK1.cell; have hf1 := BK1.frozen; have hl1 := BK1.lt
    by_cases hlt : k < n
    rotate_left
    · obtain rfl : k = n := by omega
      have HF2 : Hid (runP c ops = (cur, ys)) := Lib.hid (by rw [HFin.out, HRun0.out])
      have HCl2 := Lib.hid (fun (w' : World) (hr : ClockR.Rd w' w'.heap.size [.int .i64 cur.Now, .slice A t d] cur) => impl_cloneClock _ cur w' hr (clock_sz HOK2.out))
      rw [HT.out] at HCl2
      go_wp2_with fail
      refine (HCl2.out _ (HC.out.rd HT.out)).mono ?_
      rintro e w2 ⟨D, dd, rfl, ho2, hb2⟩
      have hz2 := hb2.size
      replace BK1 : Blk w2 (w.heap.size + 1) 28 #[.int .i64 0, .slice none 0 0] := by (repeat (first | (with_reducible assumption) | ((with_reducible refine Blk.new' ?_); focus (simp; done)) | (with_reducible refine Blk.alloc ?_ _) | (with_reducible refine Blk.drew ?_) | (with_reducible refine Blk.drewN ?_ _) | ((with_reducible refine Blk.far ?_ ?_ _); rotate_left; focus (first | omega | (simp; done) | (simp; omega))) | (refine Blk.keep ?_ (by with_reducible assumption)) | (refine Blk.below ?_ (by with_reducible assumption) (by (first | omega | (simp; done) | (simp; omega))))))
      replace hc1 := BK1.cell; replace hf1 := BK1.frozen; replace hl1 := BK1.lt
      have hi2 := own_below HI.out hb2
      have hlt0 : ∀ q, (Value.slice B m dB).ownBlock = some q → q < wr.heap.size := fun q e => (HI.out.lt q e).2
      go_wp2
      refine bodyPost_ret (v := .tuple #[.agg #[.int .i64 cur.Now, .slice D t dd], .slice B m dB]) (by simp [results, Try.results22, go_sem, hc1, hf1]) rfl ⟨[.int .i64 cur.Now, .slice D t dd], .slice B m dB, rfl, ?_, by (repeat (first | (with_reducible exact Below.refl _ _) | (with_reducible assumption) | ((with_reducible refine Below.setCell ?_ ?_ _); rotate_left; focus (first | omega | (simp; done) | (simp; omega))) | ((with_reducible refine Below.alloc ?_ ?_ _); rotate_left; focus (first | omega | (simp; done) | (simp; omega))) | (with_reducible refine Below.drew ?_) | (with_reducible refine below_drewN ?_ _) | (refine Below.trans ?_ (Below.mono (by with_reducible assumption) (by (first | omega | (simp; done) | (simp; omega)))))))⟩
      rw [HF2.out]
      refine PairC.of (own_base (base := wr.heap.size + 2) (own_setCell (own_setCell ho2 (by first | omega | (simp; done) | (simp; omega)) _) (by first | omega | (simp; done) | (simp; omega)) _) (by omega)) HT.out (own_base (base := w.heap.size + 2) (own_setCell (own_setCell hi2 (by first | omega | (simp; done) | (simp; omega)) _) (by first | omega | (simp; done) | (simp; omega)) _) (by omega)) HYs.out (fun g hg hg2 => ?_)
      have h1 := (ho2.lt g hg).1
      have h2 := hlt0 g hg2
      omega
    have hlx : k < ops.length := by rw [Hn.out]; exact hlt
    have HG := Lib.hid (List.getElem?_eq_getElem hlx)
    generalize ops[k]'hlx = op at HG
    clear hlx
    obtain ⟨b, off, rfl, hab, hq0, hq1, hq2⟩ := op_elem (HRo.out _ hb) HG.out
    have hbk := hb.size
    have HCk := Lib.hid (fun (w' : World) (hb' : Below wr.heap.size wr w') => HC.out.keep hb')
    cases hk0 : op.Kind == 0
    rotate_left
    · have HSt := Lib.hid (fun (w' : World) (hr : ClockR.Rd w' w'.heap.size [.int .i64 cur.Now, .slice A t d] cur) => impl_setTimer _ cur op.Id op.At w' hr (clock_sz HOK2.out) HOK2.out)
      have HNow := Lib.hid (set_now cur op.Id op.At)
      have HNok := Lib.hid (setC_ok op.Id op.At HOK2.out)
      have HRun : Hid (runP c (ops.take (k + 1)) = (setC cur op.Id op.At, ys)) := Lib.hid (by rw [run_snoc HG.out, HRun0.out]; exact step_set hk0)
      generalize setC cur op.Id op.At = nx at *
      generalize hnt : nx.Timers.length = nt at *
      have HNT := Lib.hid hnt
      clear hnt
      go_wp2_with fail
      refine (HSt.out _ ((HCk.out _ (by (repeat (first | (with_reducible exact Below.refl _ _) | (with_reducible assumption) | ((with_reducible refine Below.setCell ?_ ?_ _); rotate_left; focus (first | omega | (simp; done) | (simp; omega))) | ((with_reducible refine Below.alloc ?_ ?_ _); rotate_left; focus (first | omega | (simp; done) | (simp; omega))) | (with_reducible refine Below.drew ?_) | (with_reducible refine below_drewN ?_ _) | (refine Below.trans ?_ (Below.mono (by with_reducible assumption) (by (first | omega | (simp; done) | (simp; omega))))))))).rd HT.out)).mono ?_
      rintro e w3 ⟨D, dd, rfl, ho3, hb3⟩
      have hz3 := hb3.size
      try simp at hz3
      replace BK0 : Blk w3 w.heap.size 28 #[.int .i64 cur.Now, .slice A t d] := by (repeat (first | (with_reducible assumption) | ((with_reducible refine Blk.new' ?_); focus (simp; done)) | (with_reducible refine Blk.alloc ?_ _) | (with_reducible refine Blk.drew ?_) | (with_reducible refine Blk.drewN ?_ _) | ((with_reducible refine Blk.far ?_ ?_ _); rotate_left; focus (first | omega | (simp; done) | (simp; omega))) | (refine Blk.keep ?_ (by with_reducible assumption)) | (refine Blk.below ?_ (by with_reducible assumption) (by (first | omega | (simp; done) | (simp; omega))))))
      replace BK1 : Blk w3 (w.heap.size + 1) 28 #[.int .i64 0, .slice none 0 0] := by (repeat (first | (with_reducible assumption) | ((with_reducible refine Blk.new' ?_); focus (simp; done)) | (with_reducible refine Blk.alloc ?_ _) | (with_reducible refine Blk.drew ?_) | (with_reducible refine Blk.drewN ?_ _) | ((with_reducible refine Blk.far ?_ ?_ _); rotate_left; focus (first | omega | (simp; done) | (simp; omega))) | (refine Blk.keep ?_ (by with_reducible assumption)) | (refine Blk.below ?_ (by with_reducible assumption) (by (first | omega | (simp; done) | (simp; omega))))))
      have BOP : Blk w3 wr.heap.size 54 #[.int .i64 op.Kind, .int .i64 op.Id, .int .i64 op.At] := by (repeat (first | (with_reducible assumption) | ((with_reducible refine Blk.new' ?_); focus (simp; done)) | (with_reducible refine Blk.alloc ?_ _) | (with_reducible refine Blk.drew ?_) | (with_reducible refine Blk.drewN ?_ _) | ((with_reducible refine Blk.far ?_ ?_ _); rotate_left; focus (first | omega | (simp; done) | (simp; omega))) | (refine Blk.keep ?_ (by with_reducible assumption)) | (refine Blk.below ?_ (by with_reducible assumption) (by (first | omega | (simp; done) | (simp; omega))))))
      replace hc0 := BK0.cell; replace hf0 := BK0.frozen; replace hl0 := BK0.lt; replace hc1 := BK1.cell; replace hf1 := BK1.frozen; replace hl1 := BK1.lt; have hcO := BOP.cell; have hfO := BOP.frozen; have hlO := BOP.lt
      have hbw3 : Below w.heap.size w w3 := by (repeat (first | (with_reducible exact Below.refl _ _) | (with_reducible assumption) | ((with_reducible refine Below.setCell ?_ ?_ _); rotate_left; focus (first | omega | (simp; done) | (simp; omega))) | ((with_reducible refine Below.alloc ?_ ?_ _); rotate_left; focus (first | omega | (simp; done) | (simp; omega))) | (with_reducible refine Below.drew ?_) | (with_reducible refine below_drewN ?_ _) | (refine Below.trans ?_ (Below.mono (by with_reducible assumption) (by (first | omega | (simp; done) | (simp; omega)))))))
      have hi3 := own_below (HI.out.alloc (.cells #[.int .i64 op.Kind, .int .i64 op.Id, .int .i64 op.At] 54)) hb3
      have hlt0 : ∀ q, (Value.slice B m dB).ownBlock = some q → q < wr.heap.size := fun q e => (HI.out.lt q e).2
      clear hb hbk hb3
      go_wp2
      go_roundw
      case rel =>
        refine ⟨k + 1, nx, D, nt, dd, m, B, dB, ys, by omega, by omega, by go_num, rfl, by (repeat (first | (with_reducible exact Below.refl _ _) | (with_reducible assumption) | ((with_reducible refine Below.setCell ?_ ?_ _); rotate_left; focus (first | omega | (simp; done) | (simp; omega))) | ((with_reducible refine Below.alloc ?_ ?_ _); rotate_left; focus (first | omega | (simp; done) | (simp; omega))) | (with_reducible refine Below.drew ?_) | (with_reducible refine below_drewN ?_ _) | (refine Below.trans ?_ (Below.mono (by with_reducible assumption) (by (first | omega | (simp; done) | (simp; omega))))))), by simp; omega, ?_, by (repeat (first | (with_reducible assumption) | ((with_reducible refine Blk.new' ?_); focus (simp; done)) | (with_reducible refine Blk.alloc ?_ _) | (with_reducible refine Blk.drew ?_) | (with_reducible refine Blk.drewN ?_ _) | ((with_reducible refine Blk.far ?_ ?_ _); rotate_left; focus (first | omega | (simp; done) | (simp; omega))) | (refine Blk.keep ?_ (by with_reducible assumption)) | (refine Blk.below ?_ (by with_reducible assumption) (by (first | omega | (simp; done) | (simp; omega)))))), HNT, HYs, Lib.hid ?_, Lib.hid ?_, HRun, HNok⟩
        · have hB := (BK0.set_ 0 (.int .i64 cur.Now)).set_ 1 (.slice D nt dd)
          rw [HNow.out]
          simpa using hB
        · exact own_setCell (own_setCell hi3 (by first | omega | (simp; done) | (simp; omega)) _) (by first | omega | (simp; done) | (simp; omega)) _
        · refine ClkIn.of_own (base := (wr.alloc (.cells #[.int .i64 op.Kind, .int .i64 op.Id, .int .i64 op.At] 54)).heap.size + 2) (own_setCell (own_setCell ho3 (by first | omega | (simp; done) | (simp; omega)) _) (by first | omega | (simp; done) | (simp; omega)) _) HNT.out (fun b hb => ?_)
          have := hlt0 b hb
          simp
          omega
      case measure => simp [intOf]; omega
    cases hk1 : op.Kind == 1
    rotate_left
    · have HSt := Lib.hid (fun (w' : World) (hr : ClockR.Rd w' w'.heap.size [.int .i64 cur.Now, .slice A t d] cur) => impl_stopTimer _ cur op.Id w' hr (clock_sz HOK2.out) HOK2.out)
      have HNow := Lib.hid (stop_now cur op.Id)
      have HNok := Lib.hid (stopC_ok op.Id HOK2.out)
      have HRun : Hid (runP c (ops.take (k + 1)) = (stopC cur op.Id, ys)) := Lib.hid (by rw [run_snoc HG.out, HRun0.out]; exact step_stop hk0 hk1)
      generalize stopC cur op.Id = nx at *
      generalize hnt : nx.Timers.length = nt at *
      have HNT := Lib.hid hnt
      clear hnt
      go_wp2_with fail
      refine (HSt.out _ ((HCk.out _ (by (repeat (first | (with_reducible exact Below.refl _ _) | (with_reducible assumption) | ((with_reducible refine Below.setCell ?_ ?_ _); rotate_left; focus (first | omega | (simp; done) | (simp; omega))) | ((with_reducible refine Below.alloc ?_ ?_ _); rotate_left; focus (first | omega | (simp; done) | (simp; omega))) | (with_reducible refine Below.drew ?_) | (with_reducible refine below_drewN ?_ _) | (refine Below.trans ?_ (Below.mono (by with_reducible assumption) (by (first | omega | (simp; done) | (simp; omega))))))))).rd HT.out)).mono ?_
      rintro e w3 ⟨D, dd, rfl, ho3, hb3⟩
      have hz3 := hb3.size
      try simp at hz3
      replace BK0 : Blk w3 w.heap.size 28 #[.int .i64 cur.Now, .slice A t d] := by (repeat (first | (with_reducible assumption) | ((with_reducible refine Blk.new' ?_); focus (simp; done)) | (with_reducible refine Blk.alloc ?_ _) | (with_reducible refine Blk.drew ?_) | (with_reducible refine Blk.drewN ?_ _) | ((with_reducible refine Blk.far ?_ ?_ _); rotate_left; focus (first | omega | (simp; done) | (simp; omega))) | (refine Blk.keep ?_ (by with_reducible assumption)) | (refine Blk.below ?_ (by with_reducible assumption) (by (first | omega | (simp; done) | (simp; omega))))))
      replace BK1 : Blk w3 (w.heap.size + 1) 28 #[.int .i64 0, .slice none 0 0] := by (repeat (first | (with_reducible assumption) | ((with_reducible refine Blk.new' ?_); focus (simp; done)) | (with_reducible refine Blk.alloc ?_ _) | (with_reducible refine Blk.drew ?_) | (with_reducible refine Blk.drewN ?_ _) | ((with_reducible refine Blk.far ?_ ?_ _); rotate_left; focus (first | omega | (simp; done) | (simp; omega))) | (refine Blk.keep ?_ (by with_reducible assumption)) | (refine Blk.below ?_ (by with_reducible assumption) (by (first | omega | (simp; done) | (simp; omega))))))
      have BOP : Blk w3 wr.heap.size 54 #[.int .i64 op.Kind, .int .i64 op.Id, .int .i64 op.At] := by (repeat (first | (with_reducible assumption) | ((with_reducible refine Blk.new' ?_); focus (simp; done)) | (with_reducible refine Blk.alloc ?_ _) | (with_reducible refine Blk.drew ?_) | (with_reducible refine Blk.drewN ?_ _) | ((with_reducible refine Blk.far ?_ ?_ _); rotate_left; focus (first | omega | (simp; done) | (simp; omega))) | (refine Blk.keep ?_ (by with_reducible assumption)) | (refine Blk.below ?_ (by with_reducible assumption) (by (first | omega | (simp; done) | (simp; omega))))))
      replace hc0 := BK0.cell; replace hf0 := BK0.frozen; replace hl0 := BK0.lt; replace hc1 := BK1.cell; replace hf1 := BK1.frozen; replace hl1 := BK1.lt; have hcO := BOP.cell; have hfO := BOP.frozen; have hlO := BOP.lt
      have hbw3 : Below w.heap.size w w3 := by (repeat (first | (with_reducible exact Below.refl _ _) | (with_reducible assumption) | ((with_reducible refine Below.setCell ?_ ?_ _); rotate_left; focus (first | omega | (simp; done) | (simp; omega))) | ((with_reducible refine Below.alloc ?_ ?_ _); rotate_left; focus (first | omega | (simp; done) | (simp; omega))) | (with_reducible refine Below.drew ?_) | (with_reducible refine below_drewN ?_ _) | (refine Below.trans ?_ (Below.mono (by with_reducible assumption) (by (first | omega | (simp; done) | (simp; omega)))))))
      have hi3 := own_below (HI.out.alloc (.cells #[.int .i64 op.Kind, .int .i64 op.Id, .int .i64 op.At] 54)) hb3
      have hlt0 : ∀ q, (Value.slice B m dB).ownBlock = some q → q < wr.heap.size := fun q e => (HI.out.lt q e).2
      clear hb hbk hb3
      go_wp2
      go_roundw
      case rel =>
        refine ⟨k + 1, nx, D, nt, dd, m, B, dB, ys, by omega, by omega, by go_num, rfl, by (repeat (first | (with_reducible exact Below.refl _ _) | (with_reducible assumption) | ((with_reducible refine Below.setCell ?_ ?_ _); rotate_left; focus (first | omega | (simp; done) | (simp; omega))) | ((with_reducible refine Below.alloc ?_ ?_ _); rotate_left; focus (first | omega | (simp; done) | (simp; omega))) | (with_reducible refine Below.drew ?_) | (with_reducible refine below_drewN ?_ _) | (refine Below.trans ?_ (Below.mono (by with_reducible assumption) (by (first | omega | (simp; done) | (simp; omega))))))), by simp; omega, ?_, by (repeat (first | (with_reducible assumption) | ((with_reducible refine Blk.new' ?_); focus (simp; done)) | (with_reducible refine Blk.alloc ?_ _) | (with_reducible refine Blk.drew ?_) | (with_reducible refine Blk.drewN ?_ _) | ((with_reducible refine Blk.far ?_ ?_ _); rotate_left; focus (first | omega | (simp; done) | (simp; omega))) | (refine Blk.keep ?_ (by with_reducible assumption)) | (refine Blk.below ?_ (by with_reducible assumption) (by (first | omega | (simp; done) | (simp; omega)))))), HNT, HYs, Lib.hid ?_, Lib.hid ?_, HRun, HNok⟩
        · have hB := (BK0.set_ 0 (.int .i64 cur.Now)).set_ 1 (.slice D nt dd)
          rw [HNow.out]
          simpa using hB
        · exact own_setCell (own_setCell hi3 (by first | omega | (simp; done) | (simp; omega)) _) (by first | omega | (simp; done) | (simp; omega)) _
        · refine ClkIn.of_own (base := (wr.alloc (.cells #[.int .i64 op.Kind, .int .i64 op.Id, .int .i64 op.At] 54)).heap.size + 2) (own_setCell (own_setCell ho3 (by first | omega | (simp; done) | (simp; omega)) _) (by first | omega | (simp; done) | (simp; omega)) _) HNT.out (fun b hb => ?_)
          have := hlt0 b hb
          simp
          omega
      case measure => simp [intOf]; omega
    cases hk2 : op.Kind == 2
    · have HRun : Hid (runP c (ops.take (k + 1)) = (cur, ys)) := Lib.hid (by rw [run_snoc HG.out, HRun0.out]; exact step_no hk0 hk1 hk2)
      go_wp2
      go_roundw
      case rel => exact ⟨k + 1, cur, A, t, d, m, B, dB, ys, by omega, by omega, by go_num, rfl, by (repeat (first | (with_reducible exact Below.refl _ _) | (with_reducible assumption) | ((with_reducible refine Below.setCell ?_ ?_ _); rotate_left; focus (first | omega | (simp; done) | (simp; omega))) | ((with_reducible refine Below.alloc ?_ ?_ _); rotate_left; focus (first | omega | (simp; done) | (simp; omega))) | (with_reducible refine Below.drew ?_) | (with_reducible refine below_drewN ?_ _) | (refine Below.trans ?_ (Below.mono (by with_reducible assumption) (by (first | omega | (simp; done) | (simp; omega))))))), by simp; omega, by (repeat (first | (with_reducible assumption) | ((with_reducible refine Blk.new' ?_); focus (simp; done)) | (with_reducible refine Blk.alloc ?_ _) | (with_reducible refine Blk.drew ?_) | (with_reducible refine Blk.drewN ?_ _) | ((with_reducible refine Blk.far ?_ ?_ _); rotate_left; focus (first | omega | (simp; done) | (simp; omega))) | (refine Blk.keep ?_ (by with_reducible assumption)) | (refine Blk.below ?_ (by with_reducible assumption) (by (first | omega | (simp; done) | (simp; omega)))))), by (repeat (first | (with_reducible assumption) | ((with_reducible refine Blk.new' ?_); focus (simp; done)) | (with_reducible refine Blk.alloc ?_ _) | (with_reducible refine Blk.drew ?_) | (with_reducible refine Blk.drewN ?_ _) | ((with_reducible refine Blk.far ?_ ?_ _); rotate_left; focus (first | omega | (simp; done) | (simp; omega))) | (refine Blk.keep ?_ (by with_reducible assumption)) | (refine Blk.below ?_ (by with_reducible assumption) (by (first | omega | (simp; done) | (simp; omega)))))), HT, HYs, Lib.hid (HI.out.alloc _), Lib.hid (HCk.out _ (by (repeat (first | (with_reducible exact Below.refl _ _) | (with_reducible assumption) | ((with_reducible refine Below.setCell ?_ ?_ _); rotate_left; focus (first | omega | (simp; done) | (simp; omega))) | ((with_reducible refine Below.alloc ?_ ?_ _); rotate_left; focus (first | omega | (simp; done) | (simp; omega))) | (with_reducible refine Below.drew ?_) | (with_reducible refine below_drewN ?_ _) | (refine Below.trans ?_ (Below.mono (by with_reducible assumption) (by (first | omega | (simp; done) | (simp; omega))))))))), HRun, HOK2⟩
      case measure => simp [intOf]; omega
    · have HAd := Lib.hid (fun (w' : World) (hr : ClockR.Rd w' w'.heap.size [.int .i64 cur.Now, .slice A t d] cur) => impl_advance _ cur op.At w' hr (clock_sz HOK2.out) HOK2.out)
      have HNok := Lib.hid (advC_ok op.At HOK2.out)
      have HRun : Hid (runP c (ops.take (k + 1)) = (advC cur op.At, ys ++ advI cur op.At)) := Lib.hid (by rw [run_snoc HG.out, HRun0.out]; exact step_adv hk0 hk1 hk2)
      have hil := advI_len300 op.At HOK2.out
      generalize advC cur op.At = nx at *
      generalize advI cur op.At = zs at *
      go_wp2_with fail
      refine (HAd.out _ ((HCk.out _ (by (repeat (first | (with_reducible exact Below.refl _ _) | (with_reducible assumption) | ((with_reducible refine Below.setCell ?_ ?_ _); rotate_left; focus (first | omega | (simp; done) | (simp; omega))) | ((with_reducible refine Below.alloc ?_ ?_ _); rotate_left; focus (first | omega | (simp; done) | (simp; omega))) | (with_reducible refine Below.drew ?_) | (with_reducible refine below_drewN ?_ _) | (refine Below.trans ?_ (Below.mono (by with_reducible assumption) (by (first | omega | (simp; done) | (simp; omega))))))))).rd HT.out)).mono ?_
      rintro e w3 ⟨cs', v, rfl, hp3, hb3⟩
      obtain ⟨DA, da, rfl⟩ := hp3.form
      obtain ⟨DB, db, rfl⟩ := hp3.formv
      generalize hnt : nx.Timers.length = nt at *
      have HNT := Lib.hid hnt
      clear hnt
      generalize hmz : zs.length = mz at *
      have HMZ := Lib.hid hmz
      clear hmz
      have hz3 := hb3.size
      try simp at hz3
      replace BK0 : Blk w3 w.heap.size 28 #[.int .i64 cur.Now, .slice A t d] := by (repeat (first | (with_reducible assumption) | ((with_reducible refine Blk.new' ?_); focus (simp; done)) | (with_reducible refine Blk.alloc ?_ _) | (with_reducible refine Blk.drew ?_) | (with_reducible refine Blk.drewN ?_ _) | ((with_reducible refine Blk.far ?_ ?_ _); rotate_left; focus (first | omega | (simp; done) | (simp; omega))) | (refine Blk.keep ?_ (by with_reducible assumption)) | (refine Blk.below ?_ (by with_reducible assumption) (by (first | omega | (simp; done) | (simp; omega))))))
      replace BK1 : Blk w3 (w.heap.size + 1) 28 #[.int .i64 0, .slice none 0 0] := by (repeat (first | (with_reducible assumption) | ((with_reducible refine Blk.new' ?_); focus (simp; done)) | (with_reducible refine Blk.alloc ?_ _) | (with_reducible refine Blk.drew ?_) | (with_reducible refine Blk.drewN ?_ _) | ((with_reducible refine Blk.far ?_ ?_ _); rotate_left; focus (first | omega | (simp; done) | (simp; omega))) | (refine Blk.keep ?_ (by with_reducible assumption)) | (refine Blk.below ?_ (by with_reducible assumption) (by (first | omega | (simp; done) | (simp; omega))))))
      have BOP : Blk w3 wr.heap.size 54 #[.int .i64 op.Kind, .int .i64 op.Id, .int .i64 op.At] := by (repeat (first | (with_reducible assumption) | ((with_reducible refine Blk.new' ?_); focus (simp; done)) | (with_reducible refine Blk.alloc ?_ _) | (with_reducible refine Blk.drew ?_) | (with_reducible refine Blk.drewN ?_ _) | ((with_reducible refine Blk.far ?_ ?_ _); rotate_left; focus (first | omega | (simp; done) | (simp; omega))) | (refine Blk.keep ?_ (by with_reducible assumption)) | (refine Blk.below ?_ (by with_reducible assumption) (by (first | omega | (simp; done) | (simp; omega))))))
      replace hc0 := BK0.cell; replace hf0 := BK0.frozen; replace hl0 := BK0.lt; replace hc1 := BK1.cell; replace hf1 := BK1.frozen; replace hl1 := BK1.lt; have hcO := BOP.cell; have hfO := BOP.frozen; have hlO := BOP.lt
      have hbw3 : Below w.heap.size w w3 := by (repeat (first | (with_reducible exact Below.refl _ _) | (with_reducible assumption) | ((with_reducible refine Below.setCell ?_ ?_ _); rotate_left; focus (first | omega | (simp; done) | (simp; omega))) | ((with_reducible refine Below.alloc ?_ ?_ _); rotate_left; focus (first | omega | (simp; done) | (simp; omega))) | (with_reducible refine Below.drew ?_) | (with_reducible refine below_drewN ?_ _) | (refine Below.trans ?_ (Below.mono (by with_reducible assumption) (by (first | omega | (simp; done) | (simp; omega)))))))
      have hi3 := own_below (HI.out.alloc (.cells #[.int .i64 op.Kind, .int .i64 op.Id, .int .i64 op.At] 54)) hb3
      have hlt0 : ∀ q, (Value.slice B m dB).ownBlock = some q → w.heap.size + 2 ≤ q ∧ q < wr.heap.size := fun q e => HI.out.lt q e
      go_upto_region 15 with fail
      have BZ : Blk (((w3.setCell ⟨w.heap.size, 0, none⟩ (.int .i64 nx.Now)).setCell ⟨w.heap.size, 1, none⟩ (.slice DA nt da)).alloc (.cells #[.int .i64 nx.Now, .slice DA nt da] 28)) w.heap.size 28 #[.int .i64 nx.Now, .slice DA nt da] := by
        have hB := ((BK0.set_ 0 (.int .i64 nx.Now)).set_ 1 (.slice DA nt da)).alloc (.cells #[.int .i64 nx.Now, .slice DA nt da] 28)
        simpa using hB
      have BY : Blk (((w3.setCell ⟨w.heap.size, 0, none⟩ (.int .i64 nx.Now)).setCell ⟨w.heap.size, 1, none⟩ (.slice DA nt da)).alloc (.cells #[.int .i64 nx.Now, .slice DA nt da] 28)) (w.heap.size + 1) 28 #[.int .i64 0, .slice none 0 0] := by (repeat (first | (with_reducible assumption) | ((with_reducible refine Blk.new' ?_); focus (simp; done)) | (with_reducible refine Blk.alloc ?_ _) | (with_reducible refine Blk.drew ?_) | (with_reducible refine Blk.drewN ?_ _) | ((with_reducible refine Blk.far ?_ ?_ _); rotate_left; focus (first | omega | (simp; done) | (simp; omega))) | (refine Blk.keep ?_ (by with_reducible assumption)) | (refine Blk.below ?_ (by with_reducible assumption) (by (first | omega | (simp; done) | (simp; omega))))))
      have hbX : Below w.heap.size w (((w3.setCell ⟨w.heap.size, 0, none⟩ (.int .i64 nx.Now)).setCell ⟨w.heap.size, 1, none⟩ (.slice DA nt da)).alloc (.cells #[.int .i64 nx.Now, .slice DA nt da] 28)) := by (repeat (first | (with_reducible exact Below.refl _ _) | (with_reducible assumption) | ((with_reducible refine Below.setCell ?_ ?_ _); rotate_left; focus (first | omega | (simp; done) | (simp; omega))) | ((with_reducible refine Below.alloc ?_ ?_ _); rotate_left; focus (first | omega | (simp; done) | (simp; omega))) | (with_reducible refine Below.drew ?_) | (with_reducible refine below_drewN ?_ _) | (refine Below.trans ?_ (Below.mono (by with_reducible assumption) (by (first | omega | (simp; done) | (simp; omega)))))))
      have hzX : w3.heap.size + 1 ≤ (((w3.setCell ⟨w.heap.size, 0, none⟩ (.int .i64 nx.Now)).setCell ⟨w.heap.size, 1, none⟩ (.slice DA nt da)).alloc (.cells #[.int .i64 nx.Now, .slice DA nt da] 28)).heap.size := by simp
      have hiX : World.ownsRow (((w3.setCell ⟨w.heap.size, 0, none⟩ (.int .i64 nx.Now)).setCell ⟨w.heap.size, 1, none⟩ (.slice DA nt da)).alloc (.cells #[.int .i64 nx.Now, .slice DA nt da] 28)) (w.heap.size + 2) 3 1 (.slice B m dB) m (ys.map intV) := (own_setCell (own_setCell hi3 (by first | omega | (simp; done) | (simp; omega)) _) (by first | omega | (simp; done) | (simp; omega)) _).alloc _
      have hpX : PairC (((w3.setCell ⟨w.heap.size, 0, none⟩ (.int .i64 nx.Now)).setCell ⟨w.heap.size, 1, none⟩ (.slice DA nt da)).alloc (.cells #[.int .i64 nx.Now, .slice DA nt da] 28)) (wr.heap.size + 1) [.int .i64 nx.Now, .slice DA nt da] nx (.slice DB mz db) zs := hp3.off (by (repeat (first | (with_reducible exact Out.refl _ _) | (with_reducible assumption) | ((with_reducible refine Out.setCell ?_ ?_ _); rotate_left; focus (first | (refine Or.inl ?_; (first | omega | (simp; done) | (simp; omega))) | (refine Or.inr ?_; (first | omega | (simp; done) | (simp; omega))))) | (with_reducible refine Out.alloc ?_ _) | (with_reducible refine Out.drew ?_) | (with_reducible refine Out.drewN ?_ _) | (refine Out.step ?_ (by with_reducible assumption))))) (by first | omega | (simp; done) | (simp; omega)) (by first | omega | (simp; done) | (simp; omega))
      generalize (((w3.setCell ⟨w.heap.size, 0, none⟩ (.int .i64 nx.Now)).setCell ⟨w.heap.size, 1, none⟩ (.slice DA nt da)).alloc (.cells #[.int .i64 nx.Now, .slice DA nt da] 28)) = WX at *
      clear hp3 hb3 hi3 BK0 BK1 BOP hc0 hf0 hl0 hc1 hf1 hl1 hcO hfO hlO hbw3
      have hrI := hpX.ids.1
      have HO := Lib.hid (ints_one zs)
      have hckX := hpX.clk (X := (fun g => (Value.slice B m dB).ownBlock = some g)) (fun b hb => by have := (hlt0 b hb).2; omega)
      go_wp2_with (first | (at_builtin; go_loud (refine wpList_append_reads rfl _ _ 29 rfl (w.heap.size + 2) 3 j0 (.int .i64 0) 1 8 Try.underlying29 hj0 hJ0 hJ1 hJ2 rfl (by decide) _ _ _ rfl hiX WX.heap.size DB mz db (zs.map intV) rfl ?c0 hrI HO.out ?c3 ?c4 ?c5 ?_; (case c0 => rw [List.length_map, HMZ.out, Nat.mul_one]); (case c3 => (simp only [maxLen]; omega)); (case c4 => omega); (case c5 => omega); intro v' wA hown1 hgrow hat; obtain ⟨A1, c1, rfl⟩ := own_slice hown1)))
      go_roundw
      case rel =>
        have hzg := hgrow.size
        have hneI : ∀ q, q < w.heap.size + 2 → some q ≠ (Value.slice B m dB).ownBlock := fun q hq e => by have := (hlt0 _ e.symm).1; omega
        refine ⟨k + 1, nx, DA, nt, da, m + mz, A1, c1, ys ++ zs, by omega, by omega, by go_num, rfl, ?_, by omega, ?_, ?_, HNT, Lib.hid (by rw [List.length_append, HYs.out, HMZ.out]), Lib.hid (by rw [List.map_append]; exact hown1), Lib.hid ?_, HRun, HNok⟩
        · exact Below.grown hbX hgrow (by omega) (fun q e => by have := hlt0 q e; omega)
        · exact BZ.grown hgrow (hneI _ (by omega))
        · exact BY.grown hgrow (hneI _ (by omega))
        · refine hckX.1.grown hgrow (fun b hb => hb) (fun b hb => ?_)
          rcases hat with h | h
          · exact Or.inl (h ▸ hb)
          · right
            have h2 := h.symm.trans hb
            injection h2 with h2
            omega
      case measure => simp [intOf]; omega
end Go.Proofs.Ytfbgmpcknhjinaa

/- Advance of the reference. -/
import Derived.Test.YthahnaigdoiddaaAdvL
import Derived.Test.YthahnaigdoiddaaSpecStop
set_option linter.unusedSimpArgs false
set_option linter.unusedVariables false
set_option maxRecDepth 20000
namespace Go.Proofs.Ythahnaigdoiddaa
open Go.RowKit
theorem spec_ClockOk2 (cs : List Value) (c : Clock) (w : World) (h : ClockR.Rd w w.heap.size cs c) (hm : ClockR.sz c ≤ 1048576) :
    Calls Try.prog 26 #[.agg cs.toArray] w fun e w' => e = .returned (.bool (clockOk c.Now c.Timers)) ∧ Below w.heap.size w w' := by
  obtain ⟨v0, rfl, q0⟩ := rd_Clock h
  obtain ⟨A0, c0, rfl⟩ := q0.form
  rw [sz_Clock, sz_TimerS] at hm
  obtain ⟨h1, h2, h3⟩ := reads_TimerS q0
  exact spec_ClockOk c.Now A0 c0 c.Timers w h1 (by omega)
theorem own_grown2 {w w' : World} {base : Nat} {e : TypeId} {size n : Nat} {v : Value} {xs : List Value} {row : Option Nat} (h : w.ownsRow base e size v n xs) (hg : w.grownBy w' row) (hne : ∀ g, v.ownBlock = some g → row ≠ some g) : w'.ownsRow base e size v n xs := by
  refine ⟨h.1, ?_⟩
  rcases h.2 with hn | ⟨g, cap, cur, rfl, h0, hgg, rest⟩
  · exact .inl hn
  · exact .inr ⟨g, cap, cur, rfl, h0, by rw [hg.block g (Array.getElem?_eq_some_iff.1 hgg).1 (fun e => hne g rfl e.symm)]; exact hgg, rest⟩
set_option maxHeartbeats 3200000 in
theorem spec_AdvanceL (cs : List Value) (c : Clock) (now : Int) (w : World) (h : ClockR.Rd w w.heap.size cs c) (hm : ClockR.sz c ≤ 1048576) :
    Calls Try.prog 29 #[.agg cs.toArray, .int .i64 now] w fun e w' => ∃ cs' v, e = .returned (.tuple #[.agg cs'.toArray, v]) ∧ PairC w' w.heap.size cs' (advC c now) v (advI c now) ∧ Below w.heap.size w w' := by
  obtain ⟨v0, rfl, q0⟩ := rd_Clock h
  obtain ⟨A0, c0, rfl⟩ := q0.form
  have HOk := Lib.hid (fun (w' : World) (hr : ClockR.Rd w' w'.heap.size [.int .i64 c.Now, .slice A0 c.Timers.length c0] c) => spec_ClockOk2 _ c w' hr hm)
  have HCp := Lib.hid (fun (w' : World) (hr : ClockR.Rd w' w'.heap.size [.int .i64 c.Now, .slice A0 c.Timers.length c0] c) => spec_l07Copy2 _ c w' hr hm)
  have HR := Lib.hid (fun (w' : World) (hb : Below w.heap.size w w') (hz : w.heap.size ≤ w'.heap.size) => ClockR.rd_keep h hb hz)
  obtain ⟨i0, hi0, hz0, hz1', hz2'⟩ := info_parts info_Timer
  obtain ⟨j0, hj0, hJ0, hJ1, hJ2⟩ := info_parts info_int
  cases hok : clockOk c.Now c.Timers
  · have HN := Lib.hid (adv_no (c := c) (now := now) (by unfold advB; rw [hok]; rfl))
    rw [hok] at HOk
    clear hok h q0
    rw [HN.out.1, HN.out.2]
    go_enter Try.func29, Try.ntmps29
    go_wp2_with fail
    refine (HOk.out _ (HR.out _ (by (repeat (first | (with_reducible exact Below.refl _ _) | (with_reducible assumption) | ((with_reducible refine Below.setCell ?_ ?_ _); rotate_left; focus (first | omega | (simp; done) | (simp; omega))) | ((with_reducible refine Below.alloc ?_ ?_ _); rotate_left; focus (first | omega | (simp; done) | (simp; omega))) | (with_reducible refine Below.drew ?_) | (with_reducible refine below_drewN ?_ _) | (refine Below.trans ?_ (Below.mono (by with_reducible assumption) (by (first | omega | (simp; done) | (simp; omega)))))))) (by first | omega | (simp; done) | (simp; omega)))).mono ?_
    rintro e w1 ⟨rfl, hb1⟩
    have hz1 := hb1.size; try simp at hz1
    have BK0 : Blk w1 w.heap.size 26 #[.int .i64 c.Now, .slice A0 c.Timers.length c0] := by (repeat (first | (with_reducible assumption) | ((with_reducible refine Blk.new' ?_); focus (simp; done)) | (with_reducible refine Blk.alloc ?_ _) | (with_reducible refine Blk.drew ?_) | (with_reducible refine Blk.drewN ?_ _) | ((with_reducible refine Blk.far ?_ ?_ _); rotate_left; focus (first | omega | (simp; done) | (simp; omega))) | (refine Blk.keep ?_ (by with_reducible assumption)) | (refine Blk.below ?_ (by with_reducible assumption) (by (first | omega | (simp; done) | (simp; omega))))))
    have hc0 := BK0.cell; have hf0 := BK0.frozen; have hl0 := BK0.lt
    have BK1 : Blk w1 (w.heap.size + 1) 26 #[.int .i64 0, .slice none 0 0] := by (repeat (first | (with_reducible assumption) | ((with_reducible refine Blk.new' ?_); focus (simp; done)) | (with_reducible refine Blk.alloc ?_ _) | (with_reducible refine Blk.drew ?_) | (with_reducible refine Blk.drewN ?_ _) | ((with_reducible refine Blk.far ?_ ?_ _); rotate_left; focus (first | omega | (simp; done) | (simp; omega))) | (refine Blk.keep ?_ (by with_reducible assumption)) | (refine Blk.below ?_ (by with_reducible assumption) (by (first | omega | (simp; done) | (simp; omega))))))
    have hc1 := BK1.cell; have hf1 := BK1.frozen; have hl1 := BK1.lt
    go_wp2_with fail
    refine (HCp.out _ (HR.out _ (by (repeat (first | (with_reducible exact Below.refl _ _) | (with_reducible assumption) | ((with_reducible refine Below.setCell ?_ ?_ _); rotate_left; focus (first | omega | (simp; done) | (simp; omega))) | ((with_reducible refine Below.alloc ?_ ?_ _); rotate_left; focus (first | omega | (simp; done) | (simp; omega))) | (with_reducible refine Below.drew ?_) | (with_reducible refine below_drewN ?_ _) | (refine Below.trans ?_ (Below.mono (by with_reducible assumption) (by (first | omega | (simp; done) | (simp; omega)))))))) (by first | omega | (simp; done) | (simp; omega)))).mono ?_
    rintro e w2 ⟨D, d, rfl, ho2, hb2⟩
    have hz2 := hb2.size; try simp at hz2
    replace BK0 : Blk w2 w.heap.size 26 #[.int .i64 c.Now, .slice A0 c.Timers.length c0] := by (repeat (first | (with_reducible assumption) | ((with_reducible refine Blk.new' ?_); focus (simp; done)) | (with_reducible refine Blk.alloc ?_ _) | (with_reducible refine Blk.drew ?_) | (with_reducible refine Blk.drewN ?_ _) | ((with_reducible refine Blk.far ?_ ?_ _); rotate_left; focus (first | omega | (simp; done) | (simp; omega))) | (refine Blk.keep ?_ (by with_reducible assumption)) | (refine Blk.below ?_ (by with_reducible assumption) (by (first | omega | (simp; done) | (simp; omega))))))
    replace hc0 := BK0.cell; replace hf0 := BK0.frozen; replace hl0 := BK0.lt
    replace BK1 : Blk w2 (w.heap.size + 1) 26 #[.int .i64 0, .slice none 0 0] := by (repeat (first | (with_reducible assumption) | ((with_reducible refine Blk.new' ?_); focus (simp; done)) | (with_reducible refine Blk.alloc ?_ _) | (with_reducible refine Blk.drew ?_) | (with_reducible refine Blk.drewN ?_ _) | ((with_reducible refine Blk.far ?_ ?_ _); rotate_left; focus (first | omega | (simp; done) | (simp; omega))) | (refine Blk.keep ?_ (by with_reducible assumption)) | (refine Blk.below ?_ (by with_reducible assumption) (by (first | omega | (simp; done) | (simp; omega))))))
    replace hc1 := BK1.cell; replace hf1 := BK1.frozen; replace hl1 := BK1.lt
    go_wp2
    refine bodyPost_ret (v := .tuple #[.agg #[.int .i64 c.Now, .slice D c.Timers.length d], .slice none 0 0]) (by simp [results, Try.results29, go_sem, hc1, hf1]) rfl ⟨[.int .i64 c.Now, .slice D c.Timers.length d], .slice none 0 0, rfl, ?_, by (repeat (first | (with_reducible exact Below.refl _ _) | (with_reducible assumption) | ((with_reducible refine Below.setCell ?_ ?_ _); rotate_left; focus (first | omega | (simp; done) | (simp; omega))) | ((with_reducible refine Below.alloc ?_ ?_ _); rotate_left; focus (first | omega | (simp; done) | (simp; omega))) | (with_reducible refine Below.drew ?_) | (with_reducible refine below_drewN ?_ _) | (refine Below.trans ?_ (Below.mono (by with_reducible assumption) (by (first | omega | (simp; done) | (simp; omega)))))))⟩
    refine PairC.of (own_base (base := w1.heap.size) ?_ (by omega)) rfl (World.ownsRow_nil _ _ _ _) rfl (fun g _ => by simp [Value.ownBlock])
    (repeat (first | (with_reducible exact ho2) | ((with_reducible refine own_setCell ?_ ?_ _); rotate_left; focus (first | omega | (simp; done) | (simp; omega))) | (with_reducible refine World.ownsRow.alloc ?_ _) | (with_reducible refine own_drew ?_) | (with_reducible refine own_drewN ?_ _) | (refine own_below ?_ (by with_reducible assumption))))
  rw [hok] at HOk
  cases hw : withinB now c.Now 1000000000
  · have HN := Lib.hid (adv_no (c := c) (now := now) (by unfold advB; rw [hok, hw]; rfl))
    have HW := Lib.hid hw
    clear hw hok h q0
    rw [HN.out.1, HN.out.2]
    go_enter Try.func29, Try.ntmps29
    go_wp2_with fail
    refine (HOk.out _ (HR.out _ (by (repeat (first | (with_reducible exact Below.refl _ _) | (with_reducible assumption) | ((with_reducible refine Below.setCell ?_ ?_ _); rotate_left; focus (first | omega | (simp; done) | (simp; omega))) | ((with_reducible refine Below.alloc ?_ ?_ _); rotate_left; focus (first | omega | (simp; done) | (simp; omega))) | (with_reducible refine Below.drew ?_) | (with_reducible refine below_drewN ?_ _) | (refine Below.trans ?_ (Below.mono (by with_reducible assumption) (by (first | omega | (simp; done) | (simp; omega)))))))) (by first | omega | (simp; done) | (simp; omega)))).mono ?_
    rintro e w1 ⟨rfl, hb1⟩
    have hz1 := hb1.size; try simp at hz1
    have BK0 : Blk w1 w.heap.size 26 #[.int .i64 c.Now, .slice A0 c.Timers.length c0] := by (repeat (first | (with_reducible assumption) | ((with_reducible refine Blk.new' ?_); focus (simp; done)) | (with_reducible refine Blk.alloc ?_ _) | (with_reducible refine Blk.drew ?_) | (with_reducible refine Blk.drewN ?_ _) | ((with_reducible refine Blk.far ?_ ?_ _); rotate_left; focus (first | omega | (simp; done) | (simp; omega))) | (refine Blk.keep ?_ (by with_reducible assumption)) | (refine Blk.below ?_ (by with_reducible assumption) (by (first | omega | (simp; done) | (simp; omega))))))
    have hc0 := BK0.cell; have hf0 := BK0.frozen; have hl0 := BK0.lt
    have BK1 : Blk w1 (w.heap.size + 1) 26 #[.int .i64 0, .slice none 0 0] := by (repeat (first | (with_reducible assumption) | ((with_reducible refine Blk.new' ?_); focus (simp; done)) | (with_reducible refine Blk.alloc ?_ _) | (with_reducible refine Blk.drew ?_) | (with_reducible refine Blk.drewN ?_ _) | ((with_reducible refine Blk.far ?_ ?_ _); rotate_left; focus (first | omega | (simp; done) | (simp; omega))) | (refine Blk.keep ?_ (by with_reducible assumption)) | (refine Blk.below ?_ (by with_reducible assumption) (by (first | omega | (simp; done) | (simp; omega))))))
    have hc1 := BK1.cell; have hf1 := BK1.frozen; have hl1 := BK1.lt
    go_wp2_with fail
    refine (Calls.veiled (spec_l01In_b HW.out _)).mono ?_
    rintro e w2 ⟨rfl, hb2⟩
    have hz2 := hb2.size; try simp at hz2
    replace BK0 : Blk w2 w.heap.size 26 #[.int .i64 c.Now, .slice A0 c.Timers.length c0] := by (repeat (first | (with_reducible assumption) | ((with_reducible refine Blk.new' ?_); focus (simp; done)) | (with_reducible refine Blk.alloc ?_ _) | (with_reducible refine Blk.drew ?_) | (with_reducible refine Blk.drewN ?_ _) | ((with_reducible refine Blk.far ?_ ?_ _); rotate_left; focus (first | omega | (simp; done) | (simp; omega))) | (refine Blk.keep ?_ (by with_reducible assumption)) | (refine Blk.below ?_ (by with_reducible assumption) (by (first | omega | (simp; done) | (simp; omega))))))
    replace hc0 := BK0.cell; replace hf0 := BK0.frozen; replace hl0 := BK0.lt
    replace BK1 : Blk w2 (w.heap.size + 1) 26 #[.int .i64 0, .slice none 0 0] := by (repeat (first | (with_reducible assumption) | ((with_reducible refine Blk.new' ?_); focus (simp; done)) | (with_reducible refine Blk.alloc ?_ _) | (with_reducible refine Blk.drew ?_) | (with_reducible refine Blk.drewN ?_ _) | ((with_reducible refine Blk.far ?_ ?_ _); rotate_left; focus (first | omega | (simp; done) | (simp; omega))) | (refine Blk.keep ?_ (by with_reducible assumption)) | (refine Blk.below ?_ (by with_reducible assumption) (by (first | omega | (simp; done) | (simp; omega))))))
    replace hc1 := BK1.cell; replace hf1 := BK1.frozen; replace hl1 := BK1.lt
    go_wp2_with fail
    refine (HCp.out _ (HR.out _ (by (repeat (first | (with_reducible exact Below.refl _ _) | (with_reducible assumption) | ((with_reducible refine Below.setCell ?_ ?_ _); rotate_left; focus (first | omega | (simp; done) | (simp; omega))) | ((with_reducible refine Below.alloc ?_ ?_ _); rotate_left; focus (first | omega | (simp; done) | (simp; omega))) | (with_reducible refine Below.drew ?_) | (with_reducible refine below_drewN ?_ _) | (refine Below.trans ?_ (Below.mono (by with_reducible assumption) (by (first | omega | (simp; done) | (simp; omega)))))))) (by first | omega | (simp; done) | (simp; omega)))).mono ?_
    rintro e w3 ⟨D, d, rfl, ho3, hb3⟩
    have hz3 := hb3.size; try simp at hz3
    replace BK0 : Blk w3 w.heap.size 26 #[.int .i64 c.Now, .slice A0 c.Timers.length c0] := by (repeat (first | (with_reducible assumption) | ((with_reducible refine Blk.new' ?_); focus (simp; done)) | (with_reducible refine Blk.alloc ?_ _) | (with_reducible refine Blk.drew ?_) | (with_reducible refine Blk.drewN ?_ _) | ((with_reducible refine Blk.far ?_ ?_ _); rotate_left; focus (first | omega | (simp; done) | (simp; omega))) | (refine Blk.keep ?_ (by with_reducible assumption)) | (refine Blk.below ?_ (by with_reducible assumption) (by (first | omega | (simp; done) | (simp; omega))))))
    replace hc0 := BK0.cell; replace hf0 := BK0.frozen; replace hl0 := BK0.lt
    replace BK1 : Blk w3 (w.heap.size + 1) 26 #[.int .i64 0, .slice none 0 0] := by (repeat (first | (with_reducible assumption) | ((with_reducible refine Blk.new' ?_); focus (simp; done)) | (with_reducible refine Blk.alloc ?_ _) | (with_reducible refine Blk.drew ?_) | (with_reducible refine Blk.drewN ?_ _) | ((with_reducible refine Blk.far ?_ ?_ _); rotate_left; focus (first | omega | (simp; done) | (simp; omega))) | (refine Blk.keep ?_ (by with_reducible assumption)) | (refine Blk.below ?_ (by with_reducible assumption) (by (first | omega | (simp; done) | (simp; omega))))))
    replace hc1 := BK1.cell; replace hf1 := BK1.frozen; replace hl1 := BK1.lt
    go_wp2
    refine bodyPost_ret (v := .tuple #[.agg #[.int .i64 c.Now, .slice D c.Timers.length d], .slice none 0 0]) (by simp [results, Try.results29, go_sem, hc1, hf1]) rfl ⟨[.int .i64 c.Now, .slice D c.Timers.length d], .slice none 0 0, rfl, ?_, by (repeat (first | (with_reducible exact Below.refl _ _) | (with_reducible assumption) | ((with_reducible refine Below.setCell ?_ ?_ _); rotate_left; focus (first | omega | (simp; done) | (simp; omega))) | ((with_reducible refine Below.alloc ?_ ?_ _); rotate_left; focus (first | omega | (simp; done) | (simp; omega))) | (with_reducible refine Below.drew ?_) | (with_reducible refine below_drewN ?_ _) | (refine Below.trans ?_ (Below.mono (by with_reducible assumption) (by (first | omega | (simp; done) | (simp; omega)))))))⟩
    refine PairC.of (own_base (base := w2.heap.size) ?_ (by omega)) rfl (World.ownsRow_nil _ _ _ _) rfl (fun g _ => by simp [Value.ownBlock])
    (repeat (first | (with_reducible exact ho3) | ((with_reducible refine own_setCell ?_ ?_ _); rotate_left; focus (first | omega | (simp; done) | (simp; omega))) | (with_reducible refine World.ownsRow.alloc ?_ _) | (with_reducible refine own_drew ?_) | (with_reducible refine own_drewN ?_ _) | (refine own_below ?_ (by with_reducible assumption))))
  have HY := Lib.hid (adv_yes (c := c) (now := now) (by unfold advB; rw [hok, hw]; rfl))
  have hml : c.Timers.length ≤ 300 := clock_len hok
  have HW := Lib.hid hw
  obtain ⟨hr, _, _⟩ := reads_TimerS q0
  clear hw hok h q0 hm
  rw [HY.out.1, HY.out.2]
  generalize c.Timers = ts at *
  generalize hn : ts.length = n at *
  have Hn := Lib.hid hn
  clear hn
  go_enter Try.func29, Try.ntmps29
  go_wp2_with fail
  refine (HOk.out _ (HR.out _ (by (repeat (first | (with_reducible exact Below.refl _ _) | (with_reducible assumption) | ((with_reducible refine Below.setCell ?_ ?_ _); rotate_left; focus (first | omega | (simp; done) | (simp; omega))) | ((with_reducible refine Below.alloc ?_ ?_ _); rotate_left; focus (first | omega | (simp; done) | (simp; omega))) | (with_reducible refine Below.drew ?_) | (with_reducible refine below_drewN ?_ _) | (refine Below.trans ?_ (Below.mono (by with_reducible assumption) (by (first | omega | (simp; done) | (simp; omega)))))))) (by first | omega | (simp; done) | (simp; omega)))).mono ?_
  rintro e w1 ⟨rfl, hb1⟩
  have hz1 := hb1.size; try simp at hz1
  have BK0 : Blk w1 w.heap.size 26 #[.int .i64 c.Now, .slice A0 n c0] := by (repeat (first | (with_reducible assumption) | ((with_reducible refine Blk.new' ?_); focus (simp; done)) | (with_reducible refine Blk.alloc ?_ _) | (with_reducible refine Blk.drew ?_) | (with_reducible refine Blk.drewN ?_ _) | ((with_reducible refine Blk.far ?_ ?_ _); rotate_left; focus (first | omega | (simp; done) | (simp; omega))) | (refine Blk.keep ?_ (by with_reducible assumption)) | (refine Blk.below ?_ (by with_reducible assumption) (by (first | omega | (simp; done) | (simp; omega))))))
  have hc0 := BK0.cell; have hf0 := BK0.frozen; have hl0 := BK0.lt
  have BK1 : Blk w1 (w.heap.size + 1) 26 #[.int .i64 0, .slice none 0 0] := by (repeat (first | (with_reducible assumption) | ((with_reducible refine Blk.new' ?_); focus (simp; done)) | (with_reducible refine Blk.alloc ?_ _) | (with_reducible refine Blk.drew ?_) | (with_reducible refine Blk.drewN ?_ _) | ((with_reducible refine Blk.far ?_ ?_ _); rotate_left; focus (first | omega | (simp; done) | (simp; omega))) | (refine Blk.keep ?_ (by with_reducible assumption)) | (refine Blk.below ?_ (by with_reducible assumption) (by (first | omega | (simp; done) | (simp; omega))))))
  have hc1 := BK1.cell; have hf1 := BK1.frozen; have hl1 := BK1.lt
  go_wp2_with fail
  refine (Calls.veiled (spec_l01In_b HW.out _)).mono ?_
  rintro e w2 ⟨rfl, hb2⟩
  have hz2 := hb2.size; try simp at hz2
  replace BK0 : Blk w2 w.heap.size 26 #[.int .i64 c.Now, .slice A0 n c0] := by (repeat (first | (with_reducible assumption) | ((with_reducible refine Blk.new' ?_); focus (simp; done)) | (with_reducible refine Blk.alloc ?_ _) | (with_reducible refine Blk.drew ?_) | (with_reducible refine Blk.drewN ?_ _) | ((with_reducible refine Blk.far ?_ ?_ _); rotate_left; focus (first | omega | (simp; done) | (simp; omega))) | (refine Blk.keep ?_ (by with_reducible assumption)) | (refine Blk.below ?_ (by with_reducible assumption) (by (first | omega | (simp; done) | (simp; omega))))))
  replace hc0 := BK0.cell; replace hf0 := BK0.frozen; replace hl0 := BK0.lt
  replace BK1 : Blk w2 (w.heap.size + 1) 26 #[.int .i64 0, .slice none 0 0] := by (repeat (first | (with_reducible assumption) | ((with_reducible refine Blk.new' ?_); focus (simp; done)) | (with_reducible refine Blk.alloc ?_ _) | (with_reducible refine Blk.drew ?_) | (with_reducible refine Blk.drewN ?_ _) | ((with_reducible refine Blk.far ?_ ?_ _); rotate_left; focus (first | omega | (simp; done) | (simp; omega))) | (refine Blk.keep ?_ (by with_reducible assumption)) | (refine Blk.below ?_ (by with_reducible assumption) (by (first | omega | (simp; done) | (simp; omega))))))
  replace hc1 := BK1.cell; replace hf1 := BK1.frozen; replace hl1 := BK1.lt
  have hlit : World.ownsRow _ _ 3 1 _ _ _ := World.ownsRow_lit (size := 1) (w2.alloc (.cells #[.int .i64 now, .slice none 0 0] 26)) #[] 0 (Nat.le_refl _) (by simp [maxLen]) rfl
  have hbw2 : Below w.heap.size w w2 := by (repeat (first | (with_reducible exact Below.refl _ _) | (with_reducible assumption) | ((with_reducible refine Below.setCell ?_ ?_ _); rotate_left; focus (first | omega | (simp; done) | (simp; omega))) | ((with_reducible refine Below.alloc ?_ ?_ _); rotate_left; focus (first | omega | (simp; done) | (simp; omega))) | (with_reducible refine Below.drew ?_) | (with_reducible refine below_drewN ?_ _) | (refine Below.trans ?_ (Below.mono (by with_reducible assumption) (by (first | omega | (simp; done) | (simp; omega)))))))
  go_wp2
  go_loopw [7, 8] (fun sl i wr => ∃ (k : Nat) (L : List Timer) (A1 : Option Addr) (c1 : Nat) (ys : List Int) (B : Option Addr) (dB : Nat), k ≤ n ∧ L.length ≤ k ∧ ys.length ≤ k ∧ i = .int .i64 k ∧ sl = .slice B ys.length dB ∧ Below w.heap.size w wr ∧ w2.heap.size + 1 ≤ wr.heap.size ∧ Blk wr w.heap.size 26 #[.int .i64 c.Now, .slice A0 n c0] ∧ Blk wr (w.heap.size + 1) 26 #[.int .i64 0, .slice none 0 0] ∧ Blk wr w2.heap.size 26 #[.int .i64 now, .slice A1 L.length c1] ∧ Hid (wr.ownsRow (w2.heap.size + 1) 52 2 (.slice A1 L.length c1) L.length (L.flatMap Timer.cells)) ∧ Hid (wr.ownsRow (w2.heap.size + 1) 3 1 (.slice B ys.length dB) ys.length (ys.map intV)) ∧ Hid (∀ g, (Value.slice A1 L.length c1).ownBlock = some g → (Value.slice B ys.length dB).ownBlock ≠ some g) ∧ Hid (L = advT (ts.take k) now) ∧ Hid (ys = advIds (ts.take k) now)) (fun _ i _ => n - (intOf i).toNat)
  case atStart => exact ⟨0, [], none, 0, [], _, 0, Nat.zero_le _, Nat.zero_le _, Nat.zero_le _, rfl, rfl, by (repeat (first | (with_reducible exact Below.refl _ _) | (with_reducible assumption) | ((with_reducible refine Below.setCell ?_ ?_ _); rotate_left; focus (first | omega | (simp; done) | (simp; omega))) | ((with_reducible refine Below.alloc ?_ ?_ _); rotate_left; focus (first | omega | (simp; done) | (simp; omega))) | (with_reducible refine Below.drew ?_) | (with_reducible refine below_drewN ?_ _) | (refine Below.trans ?_ (Below.mono (by with_reducible assumption) (by (first | omega | (simp; done) | (simp; omega))))))), by simp, by (repeat (first | (with_reducible assumption) | ((with_reducible refine Blk.new' ?_); focus (simp; done)) | (with_reducible refine Blk.alloc ?_ _) | (with_reducible refine Blk.drew ?_) | (with_reducible refine Blk.drewN ?_ _) | ((with_reducible refine Blk.far ?_ ?_ _); rotate_left; focus (first | omega | (simp; done) | (simp; omega))) | (refine Blk.keep ?_ (by with_reducible assumption)) | (refine Blk.below ?_ (by with_reducible assumption) (by (first | omega | (simp; done) | (simp; omega)))))), by (repeat (first | (with_reducible assumption) | ((with_reducible refine Blk.new' ?_); focus (simp; done)) | (with_reducible refine Blk.alloc ?_ _) | (with_reducible refine Blk.drew ?_) | (with_reducible refine Blk.drewN ?_ _) | ((with_reducible refine Blk.far ?_ ?_ _); rotate_left; focus (first | omega | (simp; done) | (simp; omega))) | (refine Blk.keep ?_ (by with_reducible assumption)) | (refine Blk.below ?_ (by with_reducible assumption) (by (first | omega | (simp; done) | (simp; omega)))))), (by (repeat (first | (with_reducible assumption) | ((with_reducible refine Blk.new' ?_); focus (simp; done)) | (with_reducible refine Blk.alloc ?_ _) | (with_reducible refine Blk.drew ?_) | (with_reducible refine Blk.drewN ?_ _) | ((with_reducible refine Blk.far ?_ ?_ _); rotate_left; focus (first | omega | (simp; done) | (simp; omega))) | (refine Blk.keep ?_ (by with_reducible assumption)) | (refine Blk.below ?_ (by with_reducible assumption) (by (first | omega | (simp; done) | (simp; omega)))))) : Blk _ _ 26 #[.int .i64 now, .slice none 0 0]), Lib.hid (World.ownsRow_nil _ _ _ _), Lib.hid (by simpa using hlit), Lib.hid (fun g hg => by simp [Value.ownBlock] at hg), Lib.hid rfl, Lib.hid rfl⟩
  case round =>
    clear hlit hb1 hb2 BK0 BK1 hc0 hf0 hl0 hc1 hf1 hl1
    obtain ⟨k, L, A1, c1, ys, B, dB, hk, hLk, hYk, rfl, rfl, hb, hzr, BK0, BK1, BO, HT, HI, HAp, HL, HYs⟩ := hrel
    have hc0 := BK0.cell; have hcO := BO.cell; have hfO := BO.frozen
    by_cases hlt : k < n
    rotate_left
    · obtain rfl : k = n := by omega
      have HL2 : Hid (L = advT ts now ∧ ys = advIds ts now) := Lib.hid ⟨by rw [HL.out, List.take_of_length_le (by rw [Hn.out]; exact Nat.le_refl _)], by rw [HYs.out, List.take_of_length_le (by rw [Hn.out]; exact Nat.le_refl _)]⟩
      have hc1 := BK1.cell; have hf1 := BK1.frozen
      go_wp2
      refine bodyPost_ret (v := .tuple #[.agg #[.int .i64 now, .slice A1 L.length c1], .slice B ys.length dB]) (by simp [results, Try.results29, go_sem, hc1, hf1]) rfl ⟨[.int .i64 now, .slice A1 L.length c1], .slice B ys.length dB, rfl, ?_, by (repeat (first | (with_reducible exact Below.refl _ _) | (with_reducible assumption) | ((with_reducible refine Below.setCell ?_ ?_ _); rotate_left; focus (first | omega | (simp; done) | (simp; omega))) | ((with_reducible refine Below.alloc ?_ ?_ _); rotate_left; focus (first | omega | (simp; done) | (simp; omega))) | (with_reducible refine Below.drew ?_) | (with_reducible refine below_drewN ?_ _) | (refine Below.trans ?_ (Below.mono (by with_reducible assumption) (by (first | omega | (simp; done) | (simp; omega)))))))⟩
      rw [← HL2.out.1, ← HL2.out.2]
      have hrw := HT.out; have hrI := HI.out
      refine PairC.of (own_base (base := w2.heap.size + 1) ?_ (by omega)) rfl (own_base (base := w2.heap.size + 1) ?_ (by omega)) rfl HAp.out
      · (repeat (first | (with_reducible exact hrw) | ((with_reducible refine own_setCell ?_ ?_ _); rotate_left; focus (first | omega | (simp; done) | (simp; omega))) | (with_reducible refine World.ownsRow.alloc ?_ _) | (with_reducible refine own_drew ?_) | (with_reducible refine own_drewN ?_ _) | (refine own_below ?_ (by with_reducible assumption))))
      · (repeat (first | (with_reducible exact hrI) | ((with_reducible refine own_setCell ?_ ?_ _); rotate_left; focus (first | omega | (simp; done) | (simp; omega))) | (with_reducible refine World.ownsRow.alloc ?_ _) | (with_reducible refine own_drew ?_) | (with_reducible refine own_drewN ?_ _) | (refine own_below ?_ (by with_reducible assumption))))
    have hlx : k < ts.length := by rw [Hn.out]; exact hlt
    obtain ⟨b, off, rfl, hab, hx⟩ := hr.elem Timer.len (by omega) hlx hb (Nat.le_refl _)
    have HG := Lib.hid (List.getElem?_eq_getElem hlx)
    generalize ts[k]'hlx = t at hx HG
    have hx0 := hx 0 (by omega)
    have hx1 := hx 1 (by omega)
    simp only [Timer.cells, List.getElem?_cons_zero, List.getElem?_cons_succ, Nat.add_zero] at hx0 hx1
    clear hx hlx
    have hir := HI.out; have hiw := HT.out
    have hirlt : ∀ q, (Value.slice B ys.length dB).ownBlock = some q → w2.heap.size + 1 ≤ q ∧ q < wr.heap.size := fun q e => hir.lt q e
    have hiwlt : ∀ q, (Value.slice A1 L.length c1).ownBlock = some q → w2.heap.size + 1 ≤ q ∧ q < wr.heap.size := fun q e => hiw.lt q e
    by_cases hdue : t.At ≤ now
    · have HD : Hid (dueB now t = true) := Lib.hid (decide_eq_true hdue)
      go_wp2_with (first | (at_builtin; go_loud (refine wpList_append_own_at _ rfl _ _ 30 rfl (w2.heap.size + 1) 3 j0 (.int .i64 0) 1 8 Try.underlying30 hj0 hJ0 hJ1 hJ2 rfl (by decide) _ _ _ rfl (hir.alloc _) ⟨wr.heap.size, 0, none⟩ 1 1 [.int .i64 t.Id] rfl rfl ?c1 ?c2 ?c3 ?c4 ?c5 ?_; (case c1 => exact cell_one_new _ _ _); (case c2 => simp [Value.oneCell']); (case c3 => (simp only [maxLen]; omega)); (case c4 => omega); (case c5 => (simp; omega)); intro v' wA hown1 hgrow hnil hat; obtain ⟨gg, cap, rfl, hg1, hg2'⟩ := hown1.form (by omega))))
      go_roundw
      case rel =>
        have hzg := hgrow.size
        have hzg2 : wr.heap.size + 1 ≤ wA.heap.size := by simpa using hzg
        have hbA : Below w.heap.size w (wr.alloc (.cells #[.int .i64 t.Id] 3)) := Below.alloc hb (by omega) _
        have hneI : ∀ q, q < w2.heap.size + 1 → some q ≠ (Value.slice B ys.length dB).ownBlock := fun q hq e => by have := (hirlt _ e.symm).1; omega
        have hat2 : (Value.slice B ys.length dB).ownBlock = some gg ∨ gg = wr.heap.size + 1 := by
          rcases hat with h | h
          · have h2 : (Value.slice B ys.length dB).ownBlock = (Value.slice (some ⟨gg, 0, none⟩) (ys.length + 1) cap).ownBlock := h.symm
            exact Or.inl (by rw [h2]; simp [Value.ownBlock])
          · exact Or.inr (by simpa [Value.ownBlock] using h)
        refine ⟨k + 1, L, A1, c1, ys ++ [t.Id], some ⟨gg, 0, none⟩, cap, by omega, by omega, by simp; omega, by go_num, by rw [List.length_append]; rfl, ?_, by omega, ?_, ?_, ?_, Lib.hid ?_, Lib.hid (by rw [List.length_append, List.map_append]; exact hown1), Lib.hid ?_, Lib.hid (by rw [advT_yes HG.out HD.out, HL.out]), Lib.hid (by rw [advIds_yes HG.out HD.out, HYs.out])⟩
        · exact Below.grown hbA hgrow (by simp; omega) (fun q e => by have := hirlt q e; omega)
        · exact (BK0.alloc _).grown hgrow (hneI _ (by omega))
        · exact (BK1.alloc _).grown hgrow (hneI _ (by omega))
        · exact (BO.alloc _).grown hgrow (hneI _ (by omega))
        · exact own_grown2 (hiw.alloc _) hgrow (fun q hq e => HAp.out q hq e)
        · intro q hq e
          have e2 : gg = q := by simpa [Value.ownBlock] using e
          rcases hat2 with h | h
          · exact HAp.out q hq (by rw [h, e2])
          · have := (hiwlt q hq).2; omega
      case measure => simp [intOf]; omega
    have HD : Hid (dueB now t = false) := Lib.hid (decide_eq_false hdue)
    go_wp2
    have hcA := (BO.alloc (.cells #[.int .i64 t.At, .int .i64 t.Id] 52)).cell
    go_region_law (refine step_append_lies _ (by rfl) _ _ _ (by rfl) (w2.heap.size + 1) 52 i0 _ 2 16 Try.underlying24 hi0 hz0 hz1' hz2' rfl (by omega) (.slice A1 L.length c1) L.length _ (by rfl) ((hiw.alloc _).drew) ⟨wr.heap.size, 0, none⟩ 1 1 [.int .i64 t.At, .int .i64 t.Id] (by rfl) (by rfl) (World.news_of_block (cs := #[.int .i64 t.At, .int .i64 t.Id]) (t := 52) (fr := (0, 0)) (heap_alloc_new wr _)) (by simp [Value.oneCell']) (by omega) (by simp only [maxLen]; omega) (by omega) (by simp; omega) (wr.heap.size + 1) (by simp) ?_; intro gg cap w3 hown1 hgrow hat hlt1; have BX := Blk.grown (BO.alloc (.cells #[.int .i64 t.At, .int .i64 t.Id] 52)).drew hgrow (fun e => by have := (hiwlt _ e.symm).1; omega); have hcX := BX.cell; have hfX := BX.frozen)
    all_goals
      go_wp2
      go_roundw
      case rel =>
        have hzg := hgrow.size
        have hzg2 : wr.heap.size + 1 ≤ w3.heap.size := by simpa using hzg
        have hbA : Below w.heap.size w (wr.alloc (.cells #[.int .i64 t.At, .int .i64 t.Id] 52)).drew := Below.drew (Below.alloc hb (by omega) _)
        have hneT : ∀ q, q < w2.heap.size + 1 → some q ≠ (Value.slice A1 L.length c1).ownBlock := fun q hq e => by have := (hiwlt _ e.symm).1; omega
        refine ⟨k + 1, L ++ [t], some ⟨gg, 0, none⟩, cap, ys, B, dB, by omega, by simp; omega, by omega, by go_num, rfl, ?_, by simp; omega, ?_, ?_, ?_, Lib.hid ?_, Lib.hid ?_, Lib.hid ?_, Lib.hid (by rw [advT_no HG.out HD.out, HL.out]), Lib.hid (by rw [advIds_no HG.out HD.out, HYs.out])⟩
        · exact (Below.grown hbA hgrow (by simp; omega) (fun q e => by have := hiwlt q e; omega)).setCell (by simp; try omega) _
        · exact ((BK0.alloc (.cells #[.int .i64 t.At, .int .i64 t.Id] 52)).drew.grown hgrow (hneT _ (by omega))).far (by simp; omega) _
        · exact ((BK1.alloc (.cells #[.int .i64 t.At, .int .i64 t.Id] 52)).drew.grown hgrow (hneT _ (by omega))).far (by simp; omega) _
        · have hB := BX.set_ 1 (.slice (some ⟨gg, 0, none⟩) (L.length + 1) cap)
          simpa using hB
        · rw [List.flatMap_append]
          exact own_setCell (by simpa [Timer.cells] using hown1) (by simp) _
        · refine own_setCell ?_ (by simp) _
          exact own_grown2 (own_drew (hir.alloc _)) hgrow (fun q hq e => HAp.out q e hq)
        · intro q hq e
          have e2 : gg = q := by simpa [Value.ownBlock] using hq
          rcases hat with h | h
          · exact HAp.out gg h (by rw [e2]; exact e)
          · have h3 := (hirlt q e).2
            try simp at h
            omega
      case measure => simp [intOf]; omega
end Go.Proofs.Ythahnaigdoiddaa

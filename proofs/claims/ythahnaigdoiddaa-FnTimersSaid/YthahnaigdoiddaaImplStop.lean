/- stopTimer, StopTimer of the program. -/
import Derived.Test.YthahnaigdoiddaaClock3
set_option linter.unusedSimpArgs false
set_option linter.unusedVariables false
set_option maxRecDepth 20000
namespace Go.Proofs.Ythahnaigdoiddaa
open Go.RowKit
theorem impl_isClock2 (cs : List Value) (c : Clock) (w : World) (h : ClockR.Rd w w.heap.size cs c) (hm : ClockR.sz c ≤ 1048576) :
    Calls Try.prog 19 #[.agg cs.toArray] w fun e w' => e = .returned (.bool (clockOk c.Now c.Timers)) ∧ Below w.heap.size w w' := by
  obtain ⟨v0, rfl, q0⟩ := rd_Clock h
  obtain ⟨A0, c0, rfl⟩ := q0.form
  rw [sz_Clock, sz_TimerS] at hm
  obtain ⟨h1, h2, h3⟩ := reads_TimerS q0
  exact impl_isClock c.Now A0 c0 c.Timers w h1 (by omega) h2
theorem impl_timerIndex2 (cs : List Value) (c : Clock) (id : Int) (w : World) (h : ClockR.Rd w w.heap.size cs c) (hm : ClockR.sz c ≤ 1048576) :
    Calls Try.prog 22 #[.agg cs.toArray, .int .i64 id] w fun e w' => e = .returned (.int .i64 (idxB (hasId id) c.Timers)) ∧ Below w.heap.size w w' := by
  obtain ⟨v0, rfl, q0⟩ := rd_Clock h
  obtain ⟨A0, c0, rfl⟩ := q0.form
  rw [sz_Clock, sz_TimerS] at hm
  obtain ⟨h1, h2, h3⟩ := reads_TimerS q0
  exact impl_timerIndex c.Now A0 c0 c.Timers id w h1 (by omega)
theorem own_setCell_ne {w : World} {base : Nat} {e : TypeId} {size n : Nat} {v : Value} {xs : List Value} (h : w.ownsRow base e size v n xs) {a : Addr} (ha : ∀ g, v.ownBlock = some g → g ≠ a.block) (u : Value) : (w.setCell a u).ownsRow base e size v n xs := by
  refine ⟨h.1, ?_⟩
  rcases h.2 with hn | ⟨g, cap, cur, rfl, h0, hg, rest⟩
  · exact .inl hn
  · exact .inr ⟨g, cap, cur, rfl, h0, by rw [Below.heap_setCell w a u g (ha g rfl)]; exact hg, rest⟩
/-- A clock whose timers are a row of their own. -/
theorem own_clock {w : World} {base lo hi : Nat} {A : Option Addr} {c : Nat} {now : Int} {xs : List Timer} (h : w.ownsRow base 52 2 (.slice A xs.length c) xs.length (xs.flatMap Timer.cells)) (h1 : lo ≤ base) (h2 : w.heap.size ≤ hi) :
    ClockR.Own w (InR lo hi) [.int .i64 now, .slice A xs.length c] ⟨now, xs⟩ :=
  of_own_Clock (x := ⟨now, xs⟩) (of_own_TimerS h) (fun g hg => by have := h.lt g hg; exact ⟨by omega, by omega⟩)
set_option maxHeartbeats 3200000 in
theorem impl_stopTimer (cs : List Value) (c : Clock) (id : Int) (w : World) (h : ClockR.Rd w w.heap.size cs c) (hm : ClockR.sz c ≤ 1048576) (hok : clockOk c.Now c.Timers = true) :
    Calls Try.prog 23 #[.agg cs.toArray, .int .i64 id] w fun e w' => ∃ A d, e = .returned (.tuple #[.agg #[.int .i64 c.Now, .slice A (stopC c id).Timers.length d], .bool (stopB c id)]) ∧ w'.ownsRow (w.heap.size + 2) 52 2 (.slice A (stopC c id).Timers.length d) (stopC c id).Timers.length ((stopC c id).Timers.flatMap Timer.cells) ∧ Below w.heap.size w w' := by
  obtain ⟨v0, rfl, q0⟩ := rd_Clock h
  obtain ⟨A0, c0, rfl⟩ := q0.form
  have hz := hm
  rw [sz_Clock, sz_TimerS] at hz
  have hgood := clockOk_good hok
  have HI := idxB_neg (ts := c.Timers) (id := id)
  cases hany : c.Timers.any (hasId id)
  · have HS : stopB c id = false := by unfold stopB; rw [hok, hany]; rfl
    rw [HS, stopC_no HS]
    rw [hany] at HI
    have hneg : idxB (hasId id) c.Timers < 0 := by simpa using HI
    clear HS HI hany hok hgood
    have HT := Lib.hid (fun w' hr => impl_timerIndex2 [.int .i64 c.Now, .slice A0 c.Timers.length c0] c id w' hr hm)
    generalize hidx : idxB (hasId id) c.Timers = idx at *
    have HIdx := Lib.hid hidx
    clear hidx
    go_enter Try.func23, Try.ntmps23
    go_wp2_with fail
    refine (impl_cloneClock _ c _ (ClockR.rd_keep h (by (repeat (first | (with_reducible exact Below.refl _ _) | (with_reducible assumption) | ((with_reducible refine Below.setCell ?_ ?_ _); rotate_left; focus (first | omega | (simp; done) | (simp; omega))) | ((with_reducible refine Below.alloc ?_ ?_ _); rotate_left; focus (first | omega | (simp; done) | (simp; omega))) | (with_reducible refine Below.drew ?_) | (with_reducible refine below_drewN ?_ _) | (refine Below.trans ?_ (Below.mono (by with_reducible assumption) (by (first | omega | (simp; done) | (simp; omega)))))))) (by first | omega | (simp; done) | (simp; omega))) hm).mono ?_
    rintro e w1 ⟨D0, d0, rfl, ho, hb1⟩
    have hz1 := hb1.size; try simp at hz1
    have BK0 : Blk w1 w.heap.size 26 #[.int .i64 c.Now, .slice A0 c.Timers.length c0] := by (repeat (first | (with_reducible assumption) | ((with_reducible refine Blk.new' ?_); focus (simp; done)) | (with_reducible refine Blk.alloc ?_ _) | (with_reducible refine Blk.drew ?_) | (with_reducible refine Blk.drewN ?_ _) | ((with_reducible refine Blk.far ?_ ?_ _); rotate_left; focus (first | omega | (simp; done) | (simp; omega))) | (refine Blk.keep ?_ (by with_reducible assumption)) | (refine Blk.below ?_ (by with_reducible assumption) (by (first | omega | (simp; done) | (simp; omega))))))
    have BK1 : Blk w1 (w.heap.size + 1) 26 #[.int .i64 0, .slice none 0 0] := by (repeat (first | (with_reducible assumption) | ((with_reducible refine Blk.new' ?_); focus (simp; done)) | (with_reducible refine Blk.alloc ?_ _) | (with_reducible refine Blk.drew ?_) | (with_reducible refine Blk.drewN ?_ _) | ((with_reducible refine Blk.far ?_ ?_ _); rotate_left; focus (first | omega | (simp; done) | (simp; omega))) | (refine Blk.keep ?_ (by with_reducible assumption)) | (refine Blk.below ?_ (by with_reducible assumption) (by (first | omega | (simp; done) | (simp; omega))))))
    have hc0 := BK0.cell; have hf0 := BK0.frozen; have hl0 := BK0.lt; have hc1 := BK1.cell; have hf1 := BK1.frozen; have hl1 := BK1.lt
    go_wp2_with fail
    refine (HT.out _ (ClockR.rd_keep h (by (repeat (first | (with_reducible exact Below.refl _ _) | (with_reducible assumption) | ((with_reducible refine Below.setCell ?_ ?_ _); rotate_left; focus (first | omega | (simp; done) | (simp; omega))) | ((with_reducible refine Below.alloc ?_ ?_ _); rotate_left; focus (first | omega | (simp; done) | (simp; omega))) | (with_reducible refine Below.drew ?_) | (with_reducible refine below_drewN ?_ _) | (refine Below.trans ?_ (Below.mono (by with_reducible assumption) (by (first | omega | (simp; done) | (simp; omega)))))))) (by first | omega | (simp; done) | (simp; omega)))).mono ?_
    rintro e w2 ⟨rfl, hb2⟩
    have hz2 := hb2.size; try simp at hz2
    have BK2 : Blk w2 w1.heap.size 26 #[.int .i64 c.Now, .slice D0 c.Timers.length d0] := by (repeat (first | (with_reducible assumption) | ((with_reducible refine Blk.new' ?_); focus (simp; done)) | (with_reducible refine Blk.alloc ?_ _) | (with_reducible refine Blk.drew ?_) | (with_reducible refine Blk.drewN ?_ _) | ((with_reducible refine Blk.far ?_ ?_ _); rotate_left; focus (first | omega | (simp; done) | (simp; omega))) | (refine Blk.keep ?_ (by with_reducible assumption)) | (refine Blk.below ?_ (by with_reducible assumption) (by (first | omega | (simp; done) | (simp; omega))))))
    replace BK1 : Blk w2 (w.heap.size + 1) 26 #[.int .i64 0, .slice none 0 0] := by (repeat (first | (with_reducible assumption) | ((with_reducible refine Blk.new' ?_); focus (simp; done)) | (with_reducible refine Blk.alloc ?_ _) | (with_reducible refine Blk.drew ?_) | (with_reducible refine Blk.drewN ?_ _) | ((with_reducible refine Blk.far ?_ ?_ _); rotate_left; focus (first | omega | (simp; done) | (simp; omega))) | (refine Blk.keep ?_ (by with_reducible assumption)) | (refine Blk.below ?_ (by with_reducible assumption) (by (first | omega | (simp; done) | (simp; omega))))))
    have hc2 := BK2.cell; have hf2 := BK2.frozen; have hl2 := BK2.lt
    replace hc1 := BK1.cell; replace hf1 := BK1.frozen; replace hl1 := BK1.lt
    replace ho := own_base (base' := w.heap.size + 2) ho (by simp; try omega)
    clear hc0 hf0 hl0 BK0
    go_wp2
    refine bodyPost_ret (v := .tuple #[.agg #[.int .i64 c.Now, .slice D0 c.Timers.length d0], .bool false]) (by simp [results, Try.results23, go_sem, hc1, hf1]) rfl ⟨D0, d0, rfl, ?_, by (repeat (first | (with_reducible exact Below.refl _ _) | (with_reducible assumption) | ((with_reducible refine Below.setCell ?_ ?_ _); rotate_left; focus (first | omega | (simp; done) | (simp; omega))) | ((with_reducible refine Below.alloc ?_ ?_ _); rotate_left; focus (first | omega | (simp; done) | (simp; omega))) | (with_reducible refine Below.drew ?_) | (with_reducible refine below_drewN ?_ _) | (refine Below.trans ?_ (Below.mono (by with_reducible assumption) (by (first | omega | (simp; done) | (simp; omega)))))))⟩
    (repeat (first | (with_reducible exact ho) | ((with_reducible refine own_setCell ?_ ?_ _); rotate_left; focus (first | omega | (simp; done) | (simp; omega))) | (with_reducible refine World.ownsRow.alloc ?_ _) | (with_reducible refine own_drew ?_) | (with_reducible refine own_drewN ?_ _) | (refine own_below ?_ (by with_reducible assumption))))
  · have HS : stopB c id = true := by unfold stopB; rw [hok, hany]; rfl
    rw [HS, stopC_yes HS]
    obtain ⟨k, hk, hkx, hke⟩ := erase_without hgood hany
    have hwl : (without c.Timers id).length = c.Timers.length - 1 := by rw [← hke, List.length_append, List.length_take, List.length_drop]; omega
    rw [← hke]
    rw [← hke] at hwl
    clear HS HI hany hok hgood hke
    have HT := Lib.hid (fun w' hr => by have h := impl_timerIndex2 [.int .i64 c.Now, .slice A0 c.Timers.length c0] c id w' hr hm; rw [hkx] at h; exact h)
    clear hkx
    have HWl := Lib.hid hwl
    clear hwl
    go_enter Try.func23, Try.ntmps23
    go_wp2_with fail
    refine (impl_cloneClock _ c _ (ClockR.rd_keep h (by (repeat (first | (with_reducible exact Below.refl _ _) | (with_reducible assumption) | ((with_reducible refine Below.setCell ?_ ?_ _); rotate_left; focus (first | omega | (simp; done) | (simp; omega))) | ((with_reducible refine Below.alloc ?_ ?_ _); rotate_left; focus (first | omega | (simp; done) | (simp; omega))) | (with_reducible refine Below.drew ?_) | (with_reducible refine below_drewN ?_ _) | (refine Below.trans ?_ (Below.mono (by with_reducible assumption) (by (first | omega | (simp; done) | (simp; omega)))))))) (by first | omega | (simp; done) | (simp; omega))) hm).mono ?_
    rintro e w1 ⟨D0, d0, rfl, ho, hb1⟩
    obtain ⟨gg, cap, hEq, hg1, hg2⟩ := ho.form (by omega)
    simp only [Value.slice.injEq, true_and] at hEq
    obtain ⟨rfl, rfl⟩ := hEq
    have hz1 := hb1.size; try simp at hz1
    have BK0 : Blk w1 w.heap.size 26 #[.int .i64 c.Now, .slice A0 c.Timers.length c0] := by (repeat (first | (with_reducible assumption) | ((with_reducible refine Blk.new' ?_); focus (simp; done)) | (with_reducible refine Blk.alloc ?_ _) | (with_reducible refine Blk.drew ?_) | (with_reducible refine Blk.drewN ?_ _) | ((with_reducible refine Blk.far ?_ ?_ _); rotate_left; focus (first | omega | (simp; done) | (simp; omega))) | (refine Blk.keep ?_ (by with_reducible assumption)) | (refine Blk.below ?_ (by with_reducible assumption) (by (first | omega | (simp; done) | (simp; omega))))))
    have BK1 : Blk w1 (w.heap.size + 1) 26 #[.int .i64 0, .slice none 0 0] := by (repeat (first | (with_reducible assumption) | ((with_reducible refine Blk.new' ?_); focus (simp; done)) | (with_reducible refine Blk.alloc ?_ _) | (with_reducible refine Blk.drew ?_) | (with_reducible refine Blk.drewN ?_ _) | ((with_reducible refine Blk.far ?_ ?_ _); rotate_left; focus (first | omega | (simp; done) | (simp; omega))) | (refine Blk.keep ?_ (by with_reducible assumption)) | (refine Blk.below ?_ (by with_reducible assumption) (by (first | omega | (simp; done) | (simp; omega))))))
    have hc0 := BK0.cell; have hf0 := BK0.frozen; have hl0 := BK0.lt; have hc1 := BK1.cell; have hf1 := BK1.frozen; have hl1 := BK1.lt
    go_wp2_with fail
    refine (HT.out _ (ClockR.rd_keep h (by (repeat (first | (with_reducible exact Below.refl _ _) | (with_reducible assumption) | ((with_reducible refine Below.setCell ?_ ?_ _); rotate_left; focus (first | omega | (simp; done) | (simp; omega))) | ((with_reducible refine Below.alloc ?_ ?_ _); rotate_left; focus (first | omega | (simp; done) | (simp; omega))) | (with_reducible refine Below.drew ?_) | (with_reducible refine below_drewN ?_ _) | (refine Below.trans ?_ (Below.mono (by with_reducible assumption) (by (first | omega | (simp; done) | (simp; omega)))))))) (by first | omega | (simp; done) | (simp; omega)))).mono ?_
    rintro e w2 ⟨rfl, hb2⟩
    have hz2 := hb2.size; try simp at hz2
    have BK2 : Blk w2 w1.heap.size 26 #[.int .i64 c.Now, .slice (some ⟨gg, 0, none⟩) c.Timers.length d0] := by (repeat (first | (with_reducible assumption) | ((with_reducible refine Blk.new' ?_); focus (simp; done)) | (with_reducible refine Blk.alloc ?_ _) | (with_reducible refine Blk.drew ?_) | (with_reducible refine Blk.drewN ?_ _) | ((with_reducible refine Blk.far ?_ ?_ _); rotate_left; focus (first | omega | (simp; done) | (simp; omega))) | (refine Blk.keep ?_ (by with_reducible assumption)) | (refine Blk.below ?_ (by with_reducible assumption) (by (first | omega | (simp; done) | (simp; omega))))))
    replace BK1 : Blk w2 (w.heap.size + 1) 26 #[.int .i64 0, .slice none 0 0] := by (repeat (first | (with_reducible assumption) | ((with_reducible refine Blk.new' ?_); focus (simp; done)) | (with_reducible refine Blk.alloc ?_ _) | (with_reducible refine Blk.drew ?_) | (with_reducible refine Blk.drewN ?_ _) | ((with_reducible refine Blk.far ?_ ?_ _); rotate_left; focus (first | omega | (simp; done) | (simp; omega))) | (refine Blk.keep ?_ (by with_reducible assumption)) | (refine Blk.below ?_ (by with_reducible assumption) (by (first | omega | (simp; done) | (simp; omega))))))
    have hc2 := BK2.cell; have hf2 := BK2.frozen; have hl2 := BK2.lt
    replace hc1 := BK1.cell; replace hf1 := BK1.frozen; replace hl1 := BK1.lt
    replace ho := own_base (base' := w.heap.size + 2) ho (by simp; try omega)
    have ho2 : w2.ownsRow (w.heap.size + 2) 52 2 (.slice (some ⟨gg, 0, none⟩) c.Timers.length d0) c.Timers.length (c.Timers.flatMap Timer.cells) := by (repeat (first | (with_reducible exact ho) | ((with_reducible refine own_setCell ?_ ?_ _); rotate_left; focus (first | omega | (simp; done) | (simp; omega))) | (with_reducible refine World.ownsRow.alloc ?_ _) | (with_reducible refine own_drew ?_) | (with_reducible refine own_drewN ?_ _) | (refine own_below ?_ (by with_reducible assumption))))
    have hgw1 : gg < w1.heap.size := (ho.lt gg rfl).2
    have hgw : w.heap.size + 2 ≤ gg := (ho.lt gg rfl).1
    have hbW : Below w.heap.size w w2 := by (repeat (first | (with_reducible exact Below.refl _ _) | (with_reducible assumption) | ((with_reducible refine Below.setCell ?_ ?_ _); rotate_left; focus (first | omega | (simp; done) | (simp; omega))) | ((with_reducible refine Below.alloc ?_ ?_ _); rotate_left; focus (first | omega | (simp; done) | (simp; omega))) | (with_reducible refine Below.drew ?_) | (with_reducible refine below_drewN ?_ _) | (refine Below.trans ?_ (Below.mono (by with_reducible assumption) (by (first | omega | (simp; done) | (simp; omega)))))))
    clear hc0 hf0 hl0 BK0 ho hb1 hb2 hg1 hg2
    go_wp2_with fail
    refine (slices_Delete_Timer (w.heap.size + 2) gg d0 c.Timers k w2 ho2 hk (by omega)).mono ?_
    rintro e w3 ⟨rfl, ho3, hg3⟩
    have hz3 := hg3.size
    replace BK2 : Blk w3 w1.heap.size 26 #[.int .i64 c.Now, .slice (some ⟨gg, 0, none⟩) c.Timers.length d0] := BK2.grown hg3 (by simp; omega)
    replace BK1 : Blk w3 (w.heap.size + 1) 26 #[.int .i64 0, .slice none 0 0] := BK1.grown hg3 (by simp; omega)
    replace hc2 := BK2.cell; replace hf2 := BK2.frozen; replace hl2 := BK2.lt
    replace hc1 := BK1.cell; replace hf1 := BK1.frozen; replace hl1 := BK1.lt
    have hbW3 : Below w.heap.size w w3 := hbW.grown hg3 (by omega) (fun q e => by simp at e; omega)
    have hne : w.heap.size + 1 ≠ w1.heap.size := by omega
    go_wp2
    refine bodyPost_ret (v := .tuple #[.agg #[.int .i64 c.Now, .slice (some ⟨gg, 0, none⟩) (c.Timers.length - 1) d0], .bool true]) (by simp [results, Try.results23, go_sem, hc1, hf1, hne]) rfl ⟨some ⟨gg, 0, none⟩, d0, by rw [HWl.out], ?_, by (repeat (first | (with_reducible exact Below.refl _ _) | (with_reducible assumption) | ((with_reducible refine Below.setCell ?_ ?_ _); rotate_left; focus (first | omega | (simp; done) | (simp; omega))) | ((with_reducible refine Below.alloc ?_ ?_ _); rotate_left; focus (first | omega | (simp; done) | (simp; omega))) | (with_reducible refine Below.drew ?_) | (with_reducible refine below_drewN ?_ _) | (refine Below.trans ?_ (Below.mono (by with_reducible assumption) (by (first | omega | (simp; done) | (simp; omega)))))))⟩
    simp only [HWl.out]
    have ho4 := own_setCell_ne ho3 (a := ⟨w1.heap.size, 1, none⟩) (fun q e => by simp [Value.ownBlock] at e; simp; omega) (.slice (some ⟨gg, 0, none⟩) (c.Timers.length - 1) d0)
    (repeat (first | (with_reducible exact ho4) | ((with_reducible refine own_setCell ?_ ?_ _); rotate_left; focus (first | omega | (simp; done) | (simp; omega))) | (with_reducible refine World.ownsRow.alloc ?_ _) | (with_reducible refine own_drew ?_) | (with_reducible refine own_drewN ?_ _) | (refine own_below ?_ (by with_reducible assumption))))
end Go.Proofs.Ythahnaigdoiddaa

/- setTimer of the program. -/
import Derived.Test.YthahnaigdoiddaaInsertT
import Derived.Test.YthahnaigdoiddaaImplStop
set_option linter.unusedSimpArgs false
set_option linter.unusedVariables false
set_option maxRecDepth 20000
namespace Go.Proofs.Ythahnaigdoiddaa
open Go.RowKit
theorem own_setCell_off {w : World} {base : Nat} {e : TypeId} {size n : Nat} {v : Value} {xs : List Value} (h : w.ownsRow base e size v n xs) {a : Addr} (ha : ∀ g, v.ownBlock = some g → g ≠ a.block) (u : Value) : (w.setCell a u).ownsRow base e size v n xs := by
  refine ⟨h.1, ?_⟩
  rcases h.2 with hn | ⟨g, cap, cur, rfl, h0, hg, rest⟩
  · exact .inl hn
  · exact .inr ⟨g, cap, cur, rfl, h0, by rw [Below.heap_setCell w a u g (ha g rfl)]; exact hg, rest⟩
theorem own_ne_blk {w : World} {base : Nat} {e t : TypeId} {size n q : Nat} {v : Value} {xs : List Value} {cs : Array Value} (h : w.ownsRow base e size v n xs) (hb : Blk w q t cs) (ht : e ≠ t) : ∀ g, v.ownBlock = some g → g ≠ q := by
  intro g hg e2
  subst e2
  rcases h.2 with ⟨rfl, _⟩ | ⟨g', cap, cur, rfl, h0, hg', rest⟩
  · simp [Value.ownBlock] at hg
  · have e3 : g' = g := by simpa [Value.ownBlock] using hg
    subst e3
    unfold Blk at hb
    rw [hg'] at hb
    simp only [Option.some.injEq, Obj.cells.injEq] at hb
    exact ht hb.2.1
set_option maxHeartbeats 3200000 in
theorem impl_setTimer (cs : List Value) (c : Clock) (id at_ : Int) (w : World) (h : ClockR.Rd w w.heap.size cs c) (hm : ClockR.sz c ≤ 1048576) (hok : clockOk c.Now c.Timers = true) :
    Calls Try.prog 21 #[.agg cs.toArray, .int .i64 id, .int .i64 at_] w fun e w' => ∃ A d, e = .returned (.tuple #[.agg #[.int .i64 c.Now, .slice A (setC c id at_).Timers.length d], .bool (setB c id at_)]) ∧ w'.ownsRow (w.heap.size + 2) 52 2 (.slice A (setC c id at_).Timers.length d) (setC c id at_).Timers.length ((setC c id at_).Timers.flatMap Timer.cells) ∧ Below w.heap.size w w' := by
  obtain ⟨v0, rfl, q0⟩ := rd_Clock h
  obtain ⟨A0, c0, rfl⟩ := q0.form
  have hml : c.Timers.length ≤ 300 := clock_len hok
  have HIx := Lib.hid (fun (w' : World) (hr : ClockR.Rd w' w'.heap.size [.int .i64 c.Now, .slice A0 c.Timers.length c0] c) => impl_timerIndex2 _ c id w' hr hm)
  have HCl := Lib.hid (fun (w' : World) (hr : ClockR.Rd w' w'.heap.size [.int .i64 c.Now, .slice A0 c.Timers.length c0] c) => impl_cloneClock _ c w' hr hm)
  have HR := Lib.hid (fun (w' : World) (hb : Below w.heap.size w w') (hz : w.heap.size ≤ w'.heap.size) => ClockR.rd_keep h hb hz)
  have hB : setB c id at_ = (decide (c.Now ≤ at_) && (timerOk ⟨at_, id⟩ && decide ((without c.Timers id).length + 1 ≤ 300))) := by unfold setB; rw [hok, set_ok hok, Bool.true_and]
  have HSub := Lib.hid (clockOk_iff.1 (clockOk_sub hok (without_sub c.Timers id) (clock_now hok))).2.2.2.1
  have HIds := Lib.hid (without_ids (ts := c.Timers) (id := id))
  have HErase := Lib.hid (fun ha => erase_without (id := id) (clockOk_good hok) ha)
  have HNeg := Lib.hid (idxB_neg (ts := c.Timers) (id := id))
  have HAll := Lib.hid (fun hx => without_all (ts := c.Timers) (id := id) hx)
  clear hm q0 h
  generalize hix : idxB (hasId id) c.Timers = ix at *
  have HIxe := Lib.hid hix
  clear hix
  cases ht : timerOk ⟨at_, id⟩
  · have hN : setB c id at_ = false := by rw [hB, ht, Bool.false_and, Bool.and_false]
    rw [hN, setC_no hN]
    clear hN
    have HTk := Lib.hid (fun (w' : World) => (ht ▸ impl_isTimer ⟨at_, id⟩ w' : Calls Try.prog 34 #[.agg #[.int .i64 at_, .int .i64 id]] w' fun e w'' => e = .returned (.bool false) ∧ Below w'.heap.size w' w''))
    clear ht hB hok
    go_enter Try.func21, Try.ntmps21
    go_wp2_with fail
    refine (HIx.out _ (HR.out _ (by (repeat (first | (with_reducible exact Below.refl _ _) | (with_reducible assumption) | ((with_reducible refine Below.setCell ?_ ?_ _); rotate_left; focus (first | omega | (simp; done) | (simp; omega))) | ((with_reducible refine Below.alloc ?_ ?_ _); rotate_left; focus (first | omega | (simp; done) | (simp; omega))) | (with_reducible refine Below.drew ?_) | (with_reducible refine below_drewN ?_ _) | (refine Below.trans ?_ (Below.mono (by with_reducible assumption) (by (first | omega | (simp; done) | (simp; omega)))))))) (by first | omega | (simp; done) | (simp; omega)))).mono ?_
    rintro e w1 ⟨rfl, hb1⟩
    have hz1 := hb1.size; try simp at hz1
    have BK0 : Blk w1 w.heap.size 26 #[.int .i64 c.Now, .slice A0 c.Timers.length c0] := by (repeat (first | (with_reducible assumption) | ((with_reducible refine Blk.new' ?_); focus (simp; done)) | (with_reducible refine Blk.alloc ?_ _) | (with_reducible refine Blk.drew ?_) | (with_reducible refine Blk.drewN ?_ _) | ((with_reducible refine Blk.far ?_ ?_ _); rotate_left; focus (first | omega | (simp; done) | (simp; omega))) | (refine Blk.keep ?_ (by with_reducible assumption)) | (refine Blk.below ?_ (by with_reducible assumption) (by (first | omega | (simp; done) | (simp; omega))))))
    have hc0 := BK0.cell; have hf0 := BK0.frozen; have hl0 := BK0.lt
    have BK1 : Blk w1 (w.heap.size + 1) 26 #[.int .i64 0, .slice none 0 0] := by (repeat (first | (with_reducible assumption) | ((with_reducible refine Blk.new' ?_); focus (simp; done)) | (with_reducible refine Blk.alloc ?_ _) | (with_reducible refine Blk.drew ?_) | (with_reducible refine Blk.drewN ?_ _) | ((with_reducible refine Blk.far ?_ ?_ _); rotate_left; focus (first | omega | (simp; done) | (simp; omega))) | (refine Blk.keep ?_ (by with_reducible assumption)) | (refine Blk.below ?_ (by with_reducible assumption) (by (first | omega | (simp; done) | (simp; omega))))))
    have hc1 := BK1.cell; have hf1 := BK1.frozen; have hl1 := BK1.lt
    have BKT : Blk w1 (w.heap.size + 1 + 1) 52 #[.int .i64 at_, .int .i64 id] := by (repeat (first | (with_reducible assumption) | ((with_reducible refine Blk.new' ?_); focus (simp; done)) | (with_reducible refine Blk.alloc ?_ _) | (with_reducible refine Blk.drew ?_) | (with_reducible refine Blk.drewN ?_ _) | ((with_reducible refine Blk.far ?_ ?_ _); rotate_left; focus (first | omega | (simp; done) | (simp; omega))) | (refine Blk.keep ?_ (by with_reducible assumption)) | (refine Blk.below ?_ (by with_reducible assumption) (by (first | omega | (simp; done) | (simp; omega))))))
    have hcT := BKT.cell; have hfT := BKT.frozen; have hlT := BKT.lt
    go_wp2_with fail
    refine (HTk.out _).mono ?_
    rintro e w2 ⟨rfl, hb2⟩
    have hz2 := hb2.size; try simp at hz2
    replace BK0 : Blk w2 w.heap.size 26 #[.int .i64 c.Now, .slice A0 c.Timers.length c0] := by (repeat (first | (with_reducible assumption) | ((with_reducible refine Blk.new' ?_); focus (simp; done)) | (with_reducible refine Blk.alloc ?_ _) | (with_reducible refine Blk.drew ?_) | (with_reducible refine Blk.drewN ?_ _) | ((with_reducible refine Blk.far ?_ ?_ _); rotate_left; focus (first | omega | (simp; done) | (simp; omega))) | (refine Blk.keep ?_ (by with_reducible assumption)) | (refine Blk.below ?_ (by with_reducible assumption) (by (first | omega | (simp; done) | (simp; omega))))))
    replace hc0 := BK0.cell; replace hf0 := BK0.frozen; replace hl0 := BK0.lt
    replace BK1 : Blk w2 (w.heap.size + 1) 26 #[.int .i64 0, .slice none 0 0] := by (repeat (first | (with_reducible assumption) | ((with_reducible refine Blk.new' ?_); focus (simp; done)) | (with_reducible refine Blk.alloc ?_ _) | (with_reducible refine Blk.drew ?_) | (with_reducible refine Blk.drewN ?_ _) | ((with_reducible refine Blk.far ?_ ?_ _); rotate_left; focus (first | omega | (simp; done) | (simp; omega))) | (refine Blk.keep ?_ (by with_reducible assumption)) | (refine Blk.below ?_ (by with_reducible assumption) (by (first | omega | (simp; done) | (simp; omega))))))
    replace hc1 := BK1.cell; replace hf1 := BK1.frozen; replace hl1 := BK1.lt
    replace BKT : Blk w2 (w.heap.size + 1 + 1) 52 #[.int .i64 at_, .int .i64 id] := by (repeat (first | (with_reducible assumption) | ((with_reducible refine Blk.new' ?_); focus (simp; done)) | (with_reducible refine Blk.alloc ?_ _) | (with_reducible refine Blk.drew ?_) | (with_reducible refine Blk.drewN ?_ _) | ((with_reducible refine Blk.far ?_ ?_ _); rotate_left; focus (first | omega | (simp; done) | (simp; omega))) | (refine Blk.keep ?_ (by with_reducible assumption)) | (refine Blk.below ?_ (by with_reducible assumption) (by (first | omega | (simp; done) | (simp; omega))))))
    replace hcT := BKT.cell; replace hfT := BKT.frozen; replace hlT := BKT.lt
    go_wp2_with fail
    refine (HCl.out _ (HR.out _ (by (repeat (first | (with_reducible exact Below.refl _ _) | (with_reducible assumption) | ((with_reducible refine Below.setCell ?_ ?_ _); rotate_left; focus (first | omega | (simp; done) | (simp; omega))) | ((with_reducible refine Below.alloc ?_ ?_ _); rotate_left; focus (first | omega | (simp; done) | (simp; omega))) | (with_reducible refine Below.drew ?_) | (with_reducible refine below_drewN ?_ _) | (refine Below.trans ?_ (Below.mono (by with_reducible assumption) (by (first | omega | (simp; done) | (simp; omega)))))))) (by first | omega | (simp; done) | (simp; omega)))).mono ?_
    rintro e w3 ⟨D, d, rfl, ho3, hb3⟩
    replace ho3 := own_base (base' := w.heap.size + 2) ho3 (by first | omega | (simp; done) | (simp; omega))
    have hz3 := hb3.size; try simp at hz3
    replace BK0 : Blk w3 w.heap.size 26 #[.int .i64 c.Now, .slice A0 c.Timers.length c0] := by (repeat (first | (with_reducible assumption) | ((with_reducible refine Blk.new' ?_); focus (simp; done)) | (with_reducible refine Blk.alloc ?_ _) | (with_reducible refine Blk.drew ?_) | (with_reducible refine Blk.drewN ?_ _) | ((with_reducible refine Blk.far ?_ ?_ _); rotate_left; focus (first | omega | (simp; done) | (simp; omega))) | (refine Blk.keep ?_ (by with_reducible assumption)) | (refine Blk.below ?_ (by with_reducible assumption) (by (first | omega | (simp; done) | (simp; omega))))))
    replace hc0 := BK0.cell; replace hf0 := BK0.frozen; replace hl0 := BK0.lt
    replace BK1 : Blk w3 (w.heap.size + 1) 26 #[.int .i64 0, .slice none 0 0] := by (repeat (first | (with_reducible assumption) | ((with_reducible refine Blk.new' ?_); focus (simp; done)) | (with_reducible refine Blk.alloc ?_ _) | (with_reducible refine Blk.drew ?_) | (with_reducible refine Blk.drewN ?_ _) | ((with_reducible refine Blk.far ?_ ?_ _); rotate_left; focus (first | omega | (simp; done) | (simp; omega))) | (refine Blk.keep ?_ (by with_reducible assumption)) | (refine Blk.below ?_ (by with_reducible assumption) (by (first | omega | (simp; done) | (simp; omega))))))
    replace hc1 := BK1.cell; replace hf1 := BK1.frozen; replace hl1 := BK1.lt
    replace BKT : Blk w3 (w.heap.size + 1 + 1) 52 #[.int .i64 at_, .int .i64 id] := by (repeat (first | (with_reducible assumption) | ((with_reducible refine Blk.new' ?_); focus (simp; done)) | (with_reducible refine Blk.alloc ?_ _) | (with_reducible refine Blk.drew ?_) | (with_reducible refine Blk.drewN ?_ _) | ((with_reducible refine Blk.far ?_ ?_ _); rotate_left; focus (first | omega | (simp; done) | (simp; omega))) | (refine Blk.keep ?_ (by with_reducible assumption)) | (refine Blk.below ?_ (by with_reducible assumption) (by (first | omega | (simp; done) | (simp; omega))))))
    replace hcT := BKT.cell; replace hfT := BKT.frozen; replace hlT := BKT.lt
    go_wp2
    refine bodyPost_ret (v := .tuple #[.agg #[.int .i64 c.Now, .slice D c.Timers.length d], .bool false]) (by simp [results, Try.results21, go_sem, hc1, hf1]) rfl ⟨D, d, rfl, ?_, by (repeat (first | (with_reducible exact Below.refl _ _) | (with_reducible assumption) | ((with_reducible refine Below.setCell ?_ ?_ _); rotate_left; focus (first | omega | (simp; done) | (simp; omega))) | ((with_reducible refine Below.alloc ?_ ?_ _); rotate_left; focus (first | omega | (simp; done) | (simp; omega))) | (with_reducible refine Below.drew ?_) | (with_reducible refine below_drewN ?_ _) | (refine Below.trans ?_ (Below.mono (by with_reducible assumption) (by (first | omega | (simp; done) | (simp; omega)))))))⟩
    (repeat (first | (with_reducible exact ho3) | ((with_reducible refine own_setCell ?_ ?_ _); rotate_left; focus (first | omega | (simp; done) | (simp; omega))) | (with_reducible refine World.ownsRow.alloc ?_ _) | (with_reducible refine own_drew ?_) | (with_reducible refine own_drewN ?_ _) | (refine own_below ?_ (by with_reducible assumption))))
  by_cases hnow : at_ < c.Now
  · have hN : setB c id at_ = false := by rw [hB, decide_eq_false (Int.not_le.2 hnow), Bool.false_and]
    rw [hN, setC_no hN]
    clear hN
    have HTk := Lib.hid (fun (w' : World) => (ht ▸ impl_isTimer ⟨at_, id⟩ w' : Calls Try.prog 34 #[.agg #[.int .i64 at_, .int .i64 id]] w' fun e w'' => e = .returned (.bool true) ∧ Below w'.heap.size w' w''))
    clear ht hB hok
    go_enter Try.func21, Try.ntmps21
    go_wp2_with fail
    refine (HIx.out _ (HR.out _ (by (repeat (first | (with_reducible exact Below.refl _ _) | (with_reducible assumption) | ((with_reducible refine Below.setCell ?_ ?_ _); rotate_left; focus (first | omega | (simp; done) | (simp; omega))) | ((with_reducible refine Below.alloc ?_ ?_ _); rotate_left; focus (first | omega | (simp; done) | (simp; omega))) | (with_reducible refine Below.drew ?_) | (with_reducible refine below_drewN ?_ _) | (refine Below.trans ?_ (Below.mono (by with_reducible assumption) (by (first | omega | (simp; done) | (simp; omega)))))))) (by first | omega | (simp; done) | (simp; omega)))).mono ?_
    rintro e w1 ⟨rfl, hb1⟩
    have hz1 := hb1.size; try simp at hz1
    have BK0 : Blk w1 w.heap.size 26 #[.int .i64 c.Now, .slice A0 c.Timers.length c0] := by (repeat (first | (with_reducible assumption) | ((with_reducible refine Blk.new' ?_); focus (simp; done)) | (with_reducible refine Blk.alloc ?_ _) | (with_reducible refine Blk.drew ?_) | (with_reducible refine Blk.drewN ?_ _) | ((with_reducible refine Blk.far ?_ ?_ _); rotate_left; focus (first | omega | (simp; done) | (simp; omega))) | (refine Blk.keep ?_ (by with_reducible assumption)) | (refine Blk.below ?_ (by with_reducible assumption) (by (first | omega | (simp; done) | (simp; omega))))))
    have hc0 := BK0.cell; have hf0 := BK0.frozen; have hl0 := BK0.lt
    have BK1 : Blk w1 (w.heap.size + 1) 26 #[.int .i64 0, .slice none 0 0] := by (repeat (first | (with_reducible assumption) | ((with_reducible refine Blk.new' ?_); focus (simp; done)) | (with_reducible refine Blk.alloc ?_ _) | (with_reducible refine Blk.drew ?_) | (with_reducible refine Blk.drewN ?_ _) | ((with_reducible refine Blk.far ?_ ?_ _); rotate_left; focus (first | omega | (simp; done) | (simp; omega))) | (refine Blk.keep ?_ (by with_reducible assumption)) | (refine Blk.below ?_ (by with_reducible assumption) (by (first | omega | (simp; done) | (simp; omega))))))
    have hc1 := BK1.cell; have hf1 := BK1.frozen; have hl1 := BK1.lt
    have BKT : Blk w1 (w.heap.size + 1 + 1) 52 #[.int .i64 at_, .int .i64 id] := by (repeat (first | (with_reducible assumption) | ((with_reducible refine Blk.new' ?_); focus (simp; done)) | (with_reducible refine Blk.alloc ?_ _) | (with_reducible refine Blk.drew ?_) | (with_reducible refine Blk.drewN ?_ _) | ((with_reducible refine Blk.far ?_ ?_ _); rotate_left; focus (first | omega | (simp; done) | (simp; omega))) | (refine Blk.keep ?_ (by with_reducible assumption)) | (refine Blk.below ?_ (by with_reducible assumption) (by (first | omega | (simp; done) | (simp; omega))))))
    have hcT := BKT.cell; have hfT := BKT.frozen; have hlT := BKT.lt
    go_wp2_with fail
    refine (HTk.out _).mono ?_
    rintro e w2 ⟨rfl, hb2⟩
    have hz2 := hb2.size; try simp at hz2
    replace BK0 : Blk w2 w.heap.size 26 #[.int .i64 c.Now, .slice A0 c.Timers.length c0] := by (repeat (first | (with_reducible assumption) | ((with_reducible refine Blk.new' ?_); focus (simp; done)) | (with_reducible refine Blk.alloc ?_ _) | (with_reducible refine Blk.drew ?_) | (with_reducible refine Blk.drewN ?_ _) | ((with_reducible refine Blk.far ?_ ?_ _); rotate_left; focus (first | omega | (simp; done) | (simp; omega))) | (refine Blk.keep ?_ (by with_reducible assumption)) | (refine Blk.below ?_ (by with_reducible assumption) (by (first | omega | (simp; done) | (simp; omega))))))
    replace hc0 := BK0.cell; replace hf0 := BK0.frozen; replace hl0 := BK0.lt
    replace BK1 : Blk w2 (w.heap.size + 1) 26 #[.int .i64 0, .slice none 0 0] := by (repeat (first | (with_reducible assumption) | ((with_reducible refine Blk.new' ?_); focus (simp; done)) | (with_reducible refine Blk.alloc ?_ _) | (with_reducible refine Blk.drew ?_) | (with_reducible refine Blk.drewN ?_ _) | ((with_reducible refine Blk.far ?_ ?_ _); rotate_left; focus (first | omega | (simp; done) | (simp; omega))) | (refine Blk.keep ?_ (by with_reducible assumption)) | (refine Blk.below ?_ (by with_reducible assumption) (by (first | omega | (simp; done) | (simp; omega))))))
    replace hc1 := BK1.cell; replace hf1 := BK1.frozen; replace hl1 := BK1.lt
    replace BKT : Blk w2 (w.heap.size + 1 + 1) 52 #[.int .i64 at_, .int .i64 id] := by (repeat (first | (with_reducible assumption) | ((with_reducible refine Blk.new' ?_); focus (simp; done)) | (with_reducible refine Blk.alloc ?_ _) | (with_reducible refine Blk.drew ?_) | (with_reducible refine Blk.drewN ?_ _) | ((with_reducible refine Blk.far ?_ ?_ _); rotate_left; focus (first | omega | (simp; done) | (simp; omega))) | (refine Blk.keep ?_ (by with_reducible assumption)) | (refine Blk.below ?_ (by with_reducible assumption) (by (first | omega | (simp; done) | (simp; omega))))))
    replace hcT := BKT.cell; replace hfT := BKT.frozen; replace hlT := BKT.lt
    go_wp2_with fail
    refine (HCl.out _ (HR.out _ (by (repeat (first | (with_reducible exact Below.refl _ _) | (with_reducible assumption) | ((with_reducible refine Below.setCell ?_ ?_ _); rotate_left; focus (first | omega | (simp; done) | (simp; omega))) | ((with_reducible refine Below.alloc ?_ ?_ _); rotate_left; focus (first | omega | (simp; done) | (simp; omega))) | (with_reducible refine Below.drew ?_) | (with_reducible refine below_drewN ?_ _) | (refine Below.trans ?_ (Below.mono (by with_reducible assumption) (by (first | omega | (simp; done) | (simp; omega)))))))) (by first | omega | (simp; done) | (simp; omega)))).mono ?_
    rintro e w3 ⟨D, d, rfl, ho3, hb3⟩
    replace ho3 := own_base (base' := w.heap.size + 2) ho3 (by first | omega | (simp; done) | (simp; omega))
    have hz3 := hb3.size; try simp at hz3
    replace BK0 : Blk w3 w.heap.size 26 #[.int .i64 c.Now, .slice A0 c.Timers.length c0] := by (repeat (first | (with_reducible assumption) | ((with_reducible refine Blk.new' ?_); focus (simp; done)) | (with_reducible refine Blk.alloc ?_ _) | (with_reducible refine Blk.drew ?_) | (with_reducible refine Blk.drewN ?_ _) | ((with_reducible refine Blk.far ?_ ?_ _); rotate_left; focus (first | omega | (simp; done) | (simp; omega))) | (refine Blk.keep ?_ (by with_reducible assumption)) | (refine Blk.below ?_ (by with_reducible assumption) (by (first | omega | (simp; done) | (simp; omega))))))
    replace hc0 := BK0.cell; replace hf0 := BK0.frozen; replace hl0 := BK0.lt
    replace BK1 : Blk w3 (w.heap.size + 1) 26 #[.int .i64 0, .slice none 0 0] := by (repeat (first | (with_reducible assumption) | ((with_reducible refine Blk.new' ?_); focus (simp; done)) | (with_reducible refine Blk.alloc ?_ _) | (with_reducible refine Blk.drew ?_) | (with_reducible refine Blk.drewN ?_ _) | ((with_reducible refine Blk.far ?_ ?_ _); rotate_left; focus (first | omega | (simp; done) | (simp; omega))) | (refine Blk.keep ?_ (by with_reducible assumption)) | (refine Blk.below ?_ (by with_reducible assumption) (by (first | omega | (simp; done) | (simp; omega))))))
    replace hc1 := BK1.cell; replace hf1 := BK1.frozen; replace hl1 := BK1.lt
    replace BKT : Blk w3 (w.heap.size + 1 + 1) 52 #[.int .i64 at_, .int .i64 id] := by (repeat (first | (with_reducible assumption) | ((with_reducible refine Blk.new' ?_); focus (simp; done)) | (with_reducible refine Blk.alloc ?_ _) | (with_reducible refine Blk.drew ?_) | (with_reducible refine Blk.drewN ?_ _) | ((with_reducible refine Blk.far ?_ ?_ _); rotate_left; focus (first | omega | (simp; done) | (simp; omega))) | (refine Blk.keep ?_ (by with_reducible assumption)) | (refine Blk.below ?_ (by with_reducible assumption) (by (first | omega | (simp; done) | (simp; omega))))))
    replace hcT := BKT.cell; replace hfT := BKT.frozen; replace hlT := BKT.lt
    go_wp2
    refine bodyPost_ret (v := .tuple #[.agg #[.int .i64 c.Now, .slice D c.Timers.length d], .bool false]) (by simp [results, Try.results21, go_sem, hc1, hf1]) rfl ⟨D, d, rfl, ?_, by (repeat (first | (with_reducible exact Below.refl _ _) | (with_reducible assumption) | ((with_reducible refine Below.setCell ?_ ?_ _); rotate_left; focus (first | omega | (simp; done) | (simp; omega))) | ((with_reducible refine Below.alloc ?_ ?_ _); rotate_left; focus (first | omega | (simp; done) | (simp; omega))) | (with_reducible refine Below.drew ?_) | (with_reducible refine below_drewN ?_ _) | (refine Below.trans ?_ (Below.mono (by with_reducible assumption) (by (first | omega | (simp; done) | (simp; omega)))))))⟩
    (repeat (first | (with_reducible exact ho3) | ((with_reducible refine own_setCell ?_ ?_ _); rotate_left; focus (first | omega | (simp; done) | (simp; omega))) | (with_reducible refine World.ownsRow.alloc ?_ _) | (with_reducible refine own_drew ?_) | (with_reducible refine own_drewN ?_ _) | (refine own_below ?_ (by with_reducible assumption))))
  by_cases hx : ix < 0
  rotate_left
  · have hany : c.Timers.any (hasId id) = true := by have h1 := HNeg.out; rw [decide_eq_false hx] at h1; simpa using h1.symm
    obtain ⟨kk, hkk, hke1, hke⟩ := HErase.out hany
    subst hke1
    have hwl : (without c.Timers id).length = c.Timers.length - 1 := by rw [← hke, List.length_append, List.length_take, List.length_drop]; omega
    have hfit : (without c.Timers id).length + 1 ≤ 300 := by rw [hwl]; omega
    clear hany
    have hN : setB c id at_ = true := by rw [hB, decide_eq_true (Int.not_lt.1 hnow), ht, decide_eq_true hfit]; rfl
    rw [hN, setC_yes hN]
    clear hN
    have hsl : (setL c id at_).length = (without c.Timers id).length + 1 := insT_len _ _
    have HUl : Hid ((without c.Timers id).length = c.Timers.length - 1) := Lib.hid hwl
    have HKe := Lib.hid hke
    have HLen : Hid ((setL c id at_).length = (c.Timers.length - 1) + 1) := Lib.hid (by rw [hsl, HUl.out])
    rw [HUl.out] at hfit
    clear hsl hwl hke
    have HTk := Lib.hid (fun (w' : World) => (ht ▸ impl_isTimer ⟨at_, id⟩ w' : Calls Try.prog 34 #[.agg #[.int .i64 at_, .int .i64 id]] w' fun e w'' => e = .returned (.bool true) ∧ Below w'.heap.size w' w''))
    clear ht hB hok
    go_enter Try.func21, Try.ntmps21
    go_wp2_with fail
    refine (HIx.out _ (HR.out _ (by (repeat (first | (with_reducible exact Below.refl _ _) | (with_reducible assumption) | ((with_reducible refine Below.setCell ?_ ?_ _); rotate_left; focus (first | omega | (simp; done) | (simp; omega))) | ((with_reducible refine Below.alloc ?_ ?_ _); rotate_left; focus (first | omega | (simp; done) | (simp; omega))) | (with_reducible refine Below.drew ?_) | (with_reducible refine below_drewN ?_ _) | (refine Below.trans ?_ (Below.mono (by with_reducible assumption) (by (first | omega | (simp; done) | (simp; omega)))))))) (by first | omega | (simp; done) | (simp; omega)))).mono ?_
    rintro e w1 ⟨rfl, hb1⟩
    have hz1 := hb1.size; try simp at hz1
    have BK0 : Blk w1 w.heap.size 26 #[.int .i64 c.Now, .slice A0 c.Timers.length c0] := by (repeat (first | (with_reducible assumption) | ((with_reducible refine Blk.new' ?_); focus (simp; done)) | (with_reducible refine Blk.alloc ?_ _) | (with_reducible refine Blk.drew ?_) | (with_reducible refine Blk.drewN ?_ _) | ((with_reducible refine Blk.far ?_ ?_ _); rotate_left; focus (first | omega | (simp; done) | (simp; omega))) | (refine Blk.keep ?_ (by with_reducible assumption)) | (refine Blk.below ?_ (by with_reducible assumption) (by (first | omega | (simp; done) | (simp; omega))))))
    have hc0 := BK0.cell; have hf0 := BK0.frozen; have hl0 := BK0.lt
    have BK1 : Blk w1 (w.heap.size + 1) 26 #[.int .i64 0, .slice none 0 0] := by (repeat (first | (with_reducible assumption) | ((with_reducible refine Blk.new' ?_); focus (simp; done)) | (with_reducible refine Blk.alloc ?_ _) | (with_reducible refine Blk.drew ?_) | (with_reducible refine Blk.drewN ?_ _) | ((with_reducible refine Blk.far ?_ ?_ _); rotate_left; focus (first | omega | (simp; done) | (simp; omega))) | (refine Blk.keep ?_ (by with_reducible assumption)) | (refine Blk.below ?_ (by with_reducible assumption) (by (first | omega | (simp; done) | (simp; omega))))))
    have hc1 := BK1.cell; have hf1 := BK1.frozen; have hl1 := BK1.lt
    have BKT : Blk w1 (w.heap.size + 1 + 1) 52 #[.int .i64 at_, .int .i64 id] := by (repeat (first | (with_reducible assumption) | ((with_reducible refine Blk.new' ?_); focus (simp; done)) | (with_reducible refine Blk.alloc ?_ _) | (with_reducible refine Blk.drew ?_) | (with_reducible refine Blk.drewN ?_ _) | ((with_reducible refine Blk.far ?_ ?_ _); rotate_left; focus (first | omega | (simp; done) | (simp; omega))) | (refine Blk.keep ?_ (by with_reducible assumption)) | (refine Blk.below ?_ (by with_reducible assumption) (by (first | omega | (simp; done) | (simp; omega))))))
    have hcT := BKT.cell; have hfT := BKT.frozen; have hlT := BKT.lt
    go_wp2_with fail
    refine (HTk.out _).mono ?_
    rintro e w2 ⟨rfl, hb2⟩
    have hz2 := hb2.size; try simp at hz2
    replace BK0 : Blk w2 w.heap.size 26 #[.int .i64 c.Now, .slice A0 c.Timers.length c0] := by (repeat (first | (with_reducible assumption) | ((with_reducible refine Blk.new' ?_); focus (simp; done)) | (with_reducible refine Blk.alloc ?_ _) | (with_reducible refine Blk.drew ?_) | (with_reducible refine Blk.drewN ?_ _) | ((with_reducible refine Blk.far ?_ ?_ _); rotate_left; focus (first | omega | (simp; done) | (simp; omega))) | (refine Blk.keep ?_ (by with_reducible assumption)) | (refine Blk.below ?_ (by with_reducible assumption) (by (first | omega | (simp; done) | (simp; omega))))))
    replace hc0 := BK0.cell; replace hf0 := BK0.frozen; replace hl0 := BK0.lt
    replace BK1 : Blk w2 (w.heap.size + 1) 26 #[.int .i64 0, .slice none 0 0] := by (repeat (first | (with_reducible assumption) | ((with_reducible refine Blk.new' ?_); focus (simp; done)) | (with_reducible refine Blk.alloc ?_ _) | (with_reducible refine Blk.drew ?_) | (with_reducible refine Blk.drewN ?_ _) | ((with_reducible refine Blk.far ?_ ?_ _); rotate_left; focus (first | omega | (simp; done) | (simp; omega))) | (refine Blk.keep ?_ (by with_reducible assumption)) | (refine Blk.below ?_ (by with_reducible assumption) (by (first | omega | (simp; done) | (simp; omega))))))
    replace hc1 := BK1.cell; replace hf1 := BK1.frozen; replace hl1 := BK1.lt
    replace BKT : Blk w2 (w.heap.size + 1 + 1) 52 #[.int .i64 at_, .int .i64 id] := by (repeat (first | (with_reducible assumption) | ((with_reducible refine Blk.new' ?_); focus (simp; done)) | (with_reducible refine Blk.alloc ?_ _) | (with_reducible refine Blk.drew ?_) | (with_reducible refine Blk.drewN ?_ _) | ((with_reducible refine Blk.far ?_ ?_ _); rotate_left; focus (first | omega | (simp; done) | (simp; omega))) | (refine Blk.keep ?_ (by with_reducible assumption)) | (refine Blk.below ?_ (by with_reducible assumption) (by (first | omega | (simp; done) | (simp; omega))))))
    replace hcT := BKT.cell; replace hfT := BKT.frozen; replace hlT := BKT.lt
    have hbw2 : Below w.heap.size w w2 := by (repeat (first | (with_reducible exact Below.refl _ _) | (with_reducible assumption) | ((with_reducible refine Below.setCell ?_ ?_ _); rotate_left; focus (first | omega | (simp; done) | (simp; omega))) | ((with_reducible refine Below.alloc ?_ ?_ _); rotate_left; focus (first | omega | (simp; done) | (simp; omega))) | (with_reducible refine Below.drew ?_) | (with_reducible refine below_drewN ?_ _) | (refine Below.trans ?_ (Below.mono (by with_reducible assumption) (by (first | omega | (simp; done) | (simp; omega)))))))
    go_wp2_with fail
    refine (HCl.out _ (HR.out _ (by (repeat (first | (with_reducible exact Below.refl _ _) | (with_reducible assumption) | ((with_reducible refine Below.setCell ?_ ?_ _); rotate_left; focus (first | omega | (simp; done) | (simp; omega))) | ((with_reducible refine Below.alloc ?_ ?_ _); rotate_left; focus (first | omega | (simp; done) | (simp; omega))) | (with_reducible refine Below.drew ?_) | (with_reducible refine below_drewN ?_ _) | (refine Below.trans ?_ (Below.mono (by with_reducible assumption) (by (first | omega | (simp; done) | (simp; omega)))))))) (by first | omega | (simp; done) | (simp; omega)))).mono ?_
    rintro e w3 ⟨D, d, rfl, ho3, hb3⟩
    replace ho3 := own_base (base' := w2.heap.size) ho3 (by omega)
    have hz3 := hb3.size; try simp at hz3
    replace BK0 : Blk w3 w.heap.size 26 #[.int .i64 c.Now, .slice A0 c.Timers.length c0] := by (repeat (first | (with_reducible assumption) | ((with_reducible refine Blk.new' ?_); focus (simp; done)) | (with_reducible refine Blk.alloc ?_ _) | (with_reducible refine Blk.drew ?_) | (with_reducible refine Blk.drewN ?_ _) | ((with_reducible refine Blk.far ?_ ?_ _); rotate_left; focus (first | omega | (simp; done) | (simp; omega))) | (refine Blk.keep ?_ (by with_reducible assumption)) | (refine Blk.below ?_ (by with_reducible assumption) (by (first | omega | (simp; done) | (simp; omega))))))
    replace hc0 := BK0.cell; replace hf0 := BK0.frozen; replace hl0 := BK0.lt
    replace BK1 : Blk w3 (w.heap.size + 1) 26 #[.int .i64 0, .slice none 0 0] := by (repeat (first | (with_reducible assumption) | ((with_reducible refine Blk.new' ?_); focus (simp; done)) | (with_reducible refine Blk.alloc ?_ _) | (with_reducible refine Blk.drew ?_) | (with_reducible refine Blk.drewN ?_ _) | ((with_reducible refine Blk.far ?_ ?_ _); rotate_left; focus (first | omega | (simp; done) | (simp; omega))) | (refine Blk.keep ?_ (by with_reducible assumption)) | (refine Blk.below ?_ (by with_reducible assumption) (by (first | omega | (simp; done) | (simp; omega))))))
    replace hc1 := BK1.cell; replace hf1 := BK1.frozen; replace hl1 := BK1.lt
    replace BKT : Blk w3 (w.heap.size + 1 + 1) 52 #[.int .i64 at_, .int .i64 id] := by (repeat (first | (with_reducible assumption) | ((with_reducible refine Blk.new' ?_); focus (simp; done)) | (with_reducible refine Blk.alloc ?_ _) | (with_reducible refine Blk.drew ?_) | (with_reducible refine Blk.drewN ?_ _) | ((with_reducible refine Blk.far ?_ ?_ _); rotate_left; focus (first | omega | (simp; done) | (simp; omega))) | (refine Blk.keep ?_ (by with_reducible assumption)) | (refine Blk.below ?_ (by with_reducible assumption) (by (first | omega | (simp; done) | (simp; omega))))))
    replace hcT := BKT.cell; replace hfT := BKT.frozen; replace hlT := BKT.lt
    have hbw3 : Below w.heap.size w w3 := by (repeat (first | (with_reducible exact Below.refl _ _) | (with_reducible assumption) | ((with_reducible refine Below.setCell ?_ ?_ _); rotate_left; focus (first | omega | (simp; done) | (simp; omega))) | ((with_reducible refine Below.alloc ?_ ?_ _); rotate_left; focus (first | omega | (simp; done) | (simp; omega))) | (with_reducible refine Below.drew ?_) | (with_reducible refine below_drewN ?_ _) | (refine Below.trans ?_ (Below.mono (by with_reducible assumption) (by (first | omega | (simp; done) | (simp; omega)))))))
    clear hbw2
    obtain ⟨gg, cap, hEq, hgg1, hgg2⟩ := ho3.form (by omega)
    simp only [Value.slice.injEq, true_and] at hEq
    obtain ⟨rfl, rfl⟩ := hEq
    go_wp2_with fail
    refine (slices_Delete_Timer w2.heap.size gg d c.Timers kk (w3.alloc (.cells #[.int .i64 c.Now, .slice (some ⟨gg, 0, none⟩) c.Timers.length d] 26)) (ho3.alloc _) hkk (by omega)).mono ?_
    rintro e w4 ⟨rfl, ho4, hg4⟩
    have hz4 := hg4.size
    have hz42 : w3.heap.size + 1 ≤ w4.heap.size := by simpa using hz4
    have BKO : Blk w4 w3.heap.size 26 #[.int .i64 c.Now, .slice (some ⟨gg, 0, none⟩) c.Timers.length d] := Blk.grown (Blk.new _ _ _) hg4 (by simp; omega)
    replace BK1 : Blk w4 (w.heap.size + 1) 26 #[.int .i64 0, .slice none 0 0] := Blk.grown (BK1.alloc _) hg4 (by simp; omega)
    replace BKT : Blk w4 (w.heap.size + 1 + 1) 52 #[.int .i64 at_, .int .i64 id] := Blk.grown (BKT.alloc _) hg4 (by simp; omega)
    have hb4 : Below w.heap.size w w4 := Below.grown (by (repeat (first | (with_reducible exact Below.refl _ _) | (with_reducible assumption) | ((with_reducible refine Below.setCell ?_ ?_ _); rotate_left; focus (first | omega | (simp; done) | (simp; omega))) | ((with_reducible refine Below.alloc ?_ ?_ _); rotate_left; focus (first | omega | (simp; done) | (simp; omega))) | (with_reducible refine Below.drew ?_) | (with_reducible refine below_drewN ?_ _) | (refine Below.trans ?_ (Below.mono (by with_reducible assumption) (by (first | omega | (simp; done) | (simp; omega))))))) : Below w.heap.size w (w3.alloc (.cells #[.int .i64 c.Now, .slice (some ⟨gg, 0, none⟩) c.Timers.length d] 26))) hg4 (by simp; omega) (fun q e => by simp at e; omega)
    clear hc0 hf0 hl0 BK0 hc1 hf1 hl1 hcT hfT hlT hb1 hb2 hb3
    have hcO := BKO.cell; have hfO := BKO.frozen; have hlO := BKO.lt; have hc1 := BK1.cell; have hf1 := BK1.frozen; have hl1 := BK1.lt; have hcT := BKT.cell; have hfT := BKT.frozen; have hlT := BKT.lt
    go_wp2_with fail
    have hoS : World.ownsRow (w4.setCell ⟨w3.heap.size, 1, none⟩ (.slice (some ⟨gg, 0, none⟩) (c.Timers.length - 1) d)) w2.heap.size 52 2 (.slice (some ⟨gg, 0, none⟩) (c.Timers.length - 1) d) (c.Timers.length - 1) ((without c.Timers id).flatMap Timer.cells) := by
      rw [← HKe.out]
      refine own_setCell_off ho4 (fun q e => ?_) _
      have e2 : gg = q := by simpa [Value.ownBlock] using e
      simp
      omega
    replace BKO : Blk (w4.setCell ⟨w3.heap.size, 1, none⟩ (.slice (some ⟨gg, 0, none⟩) (c.Timers.length - 1) d)) w3.heap.size 26 #[.int .i64 c.Now, .slice (some ⟨gg, 0, none⟩) (c.Timers.length - 1) d] := by simpa using BKO.set_ 1 (.slice (some ⟨gg, 0, none⟩) (c.Timers.length - 1) d)
    replace BK1 : Blk (w4.setCell ⟨w3.heap.size, 1, none⟩ (.slice (some ⟨gg, 0, none⟩) (c.Timers.length - 1) d)) (w.heap.size + 1) 26 #[.int .i64 0, .slice none 0 0] := BK1.far (by simp; omega) _
    replace BKT : Blk (w4.setCell ⟨w3.heap.size, 1, none⟩ (.slice (some ⟨gg, 0, none⟩) (c.Timers.length - 1) d)) (w.heap.size + 1 + 1) 52 #[.int .i64 at_, .int .i64 id] := BKT.far (by simp; omega) _
    have hbS : Below w.heap.size w (w4.setCell ⟨w3.heap.size, 1, none⟩ (.slice (some ⟨gg, 0, none⟩) (c.Timers.length - 1) d)) := Below.setCell hb4 (by simp; omega) _
    have hzS : w2.heap.size ≤ (w4.setCell ⟨w3.heap.size, 1, none⟩ (.slice (some ⟨gg, 0, none⟩) (c.Timers.length - 1) d)).heap.size := by simp; omega
    generalize (w4.setCell ⟨w3.heap.size, 1, none⟩ (.slice (some ⟨gg, 0, none⟩) (c.Timers.length - 1) d)) = ws at *
    clear ho3 ho4 hg4 hb4 hcO hfO hlO
    have hcO := BKO.cell; have hfO := BKO.frozen; have hlO := BKO.lt
    replace hc1 := BK1.cell; replace hf1 := BK1.frozen; replace hl1 := BK1.lt; replace hcT := BKT.cell; replace hfT := BKT.frozen; replace hlT := BKT.lt
    have HSe := Lib.hid (fun (w' : World) (hr : Reads w' w'.heap.size (some ⟨gg, 0, none⟩) ((without c.Timers id).flatMap Timer.cells)) => (HUl.out ▸ slices_Search_Timer (some ⟨gg, 0, none⟩) d (without c.Timers id) ⟨at_, id⟩ w' hr (by rw [HUl.out]; omega) HSub.out HIds.out : Calls Try.prog 38 #[.slice (some ⟨gg, 0, none⟩) (c.Timers.length - 1) d, .agg #[.int .i64 at_, .int .i64 id], .func (.func 35) #[] #[]] w' fun e w'' => ∃ b, e = .returned (.tuple #[.int .i64 (insAt (without c.Timers id) ⟨at_, id⟩ : Nat), .bool b]) ∧ Below w'.heap.size w' w''))
    have hle := insAt_le (without c.Timers id) ⟨at_, id⟩
    rw [HUl.out] at hle
    have HSet : Hid (setL c id at_ = (without c.Timers id).take (insAt (without c.Timers id) ⟨at_, id⟩) ++ ⟨at_, id⟩ :: (without c.Timers id).drop (insAt (without c.Timers id) ⟨at_, id⟩)) := Lib.hid rfl
    generalize hp : insAt (without c.Timers id) ⟨at_, id⟩ = p at *
    have HP := Lib.hid hp
    clear hp
    go_wp2_with fail
    refine (HSe.out _ ((Reads.of_own hoS).more (Nat.le_refl _))).mono ?_
    rintro e w5 ⟨bb, rfl, hb5⟩
    have hz5 := hb5.size
    replace BKO := BKO.keep hb5; replace BK1 := BK1.keep hb5; replace BKT := BKT.keep hb5
    replace hcO := BKO.cell; replace hfO := BKO.frozen; replace hlO := BKO.lt; replace hc1 := BK1.cell; replace hf1 := BK1.frozen; replace hl1 := BK1.lt; replace hcT := BKT.cell; replace hfT := BKT.frozen; replace hlT := BKT.lt
    have hbS5 : Below w.heap.size w w5 := hbS.trans (hb5.mono hbS.size)
    have hoS5 := own_below hoS hb5
    have hvb : (Value.slice (some ⟨gg, 0, none⟩) (c.Timers.length - 1) d).ownBlock ≠ some w5.heap.size := fun e => by have := (hoS5.lt _ e).2; omega
    have HIn := Lib.hid (slices_Insert_Timer w2.heap.size (some ⟨gg, 0, none⟩) (c.Timers.length - 1) d (without c.Timers id) p ⟨at_, id⟩ w5.heap.size (w5.alloc (.cells #[.int .i64 at_, .int .i64 id] 52)) (hoS5.alloc _) HUl.out hle (by omega) (Blk.new _ _ _) hvb (by simp; omega))
    go_wp2_with fail
    refine HIn.out.mono ?_
    rintro e w6 ⟨A6, c6, rfl, ho6, hg6⟩
    have hz6 := hg6.size
    have hz62 : w5.heap.size + 1 ≤ w6.heap.size := by simpa using hz6
    have hltS : ∀ q, (Value.slice (some ⟨gg, 0, none⟩) (c.Timers.length - 1) d).ownBlock = some q → w2.heap.size ≤ q ∧ q < w5.heap.size := fun q e => hoS5.lt q e
    have hneB : ∀ (q : Nat) (t : TypeId) (cs : Array Value), Blk w5 q t cs → 52 ≠ t → some q ≠ (Value.slice (some ⟨gg, 0, none⟩) (c.Timers.length - 1) d).ownBlock := fun q t cs hbq ht e => own_ne_blk hoS5 hbq ht q e.symm rfl
    have BKO6 := (BKO.alloc (.cells #[.int .i64 at_, .int .i64 id] 52)).grown hg6 (hneB _ _ _ BKO (by decide))
    have BK16 := (BK1.alloc (.cells #[.int .i64 at_, .int .i64 id] 52)).grown hg6 (hneB _ _ _ BK1 (by decide))
    replace hcO := BKO6.cell; replace hfO := BKO6.frozen; replace hlO := BKO6.lt; replace hc1 := BK16.cell; replace hf1 := BK16.frozen; replace hl1 := BK16.lt
    have hb6 : Below w.heap.size w w6 := Below.grown (Below.alloc hbS5 hbS5.size (.cells #[.int .i64 at_, .int .i64 id] 52)) hg6 (by simp; omega) (fun q e => by have := hltS q e; omega)
    have hneO := own_ne_blk ho6 BKO6 (by decide)
    have hneR := own_ne_blk ho6 BK16 (by decide)
    clear hb5 hbS hbS5 hoS hoS5 HIn HSe
    go_wp2
    refine bodyPost_ret (v := .tuple #[.agg #[.int .i64 c.Now, .slice A6 ((c.Timers.length - 1) + 1) c6], .bool true]) (by simp [results, Try.results21, go_sem, hc1, hf1, hcO, hfO]) rfl ⟨A6, c6, by rw [HLen.out], ?_, by (repeat (first | (with_reducible exact Below.refl _ _) | (with_reducible assumption) | ((with_reducible refine Below.setCell ?_ ?_ _); rotate_left; focus (first | omega | (simp; done) | (simp; omega))) | ((with_reducible refine Below.alloc ?_ ?_ _); rotate_left; focus (first | omega | (simp; done) | (simp; omega))) | (with_reducible refine Below.drew ?_) | (with_reducible refine below_drewN ?_ _) | (refine Below.trans ?_ (Below.mono (by with_reducible assumption) (by (first | omega | (simp; done) | (simp; omega)))))))⟩
    rw [HLen.out, HSet.out]
    refine own_base (base := w2.heap.size) ?_ (by omega)
    repeat (first | exact ho6 | (refine own_setCell_off ?_ (by first | exact hneO | exact hneR) _))
  by_cases h300 : c.Timers.length = 300
  · have hd300 : decide ((c.Timers.length : Int) = 300) = true := by rw [h300]; rfl
    have hd301 : ((c.Timers.length : Int) == 300) = true := by rw [h300]; rfl
    have hwa := HAll.out hx
    have hN : setB c id at_ = false := by rw [hB, hwa, decide_eq_false (by omega : ¬ c.Timers.length + 1 ≤ 300), Bool.and_false, Bool.and_false]
    clear h300 hwa
    rw [hN, setC_no hN]
    clear hN
    have HTk := Lib.hid (fun (w' : World) => (ht ▸ impl_isTimer ⟨at_, id⟩ w' : Calls Try.prog 34 #[.agg #[.int .i64 at_, .int .i64 id]] w' fun e w'' => e = .returned (.bool true) ∧ Below w'.heap.size w' w''))
    clear ht hB hok
    go_enter Try.func21, Try.ntmps21
    go_wp2_with fail
    refine (HIx.out _ (HR.out _ (by (repeat (first | (with_reducible exact Below.refl _ _) | (with_reducible assumption) | ((with_reducible refine Below.setCell ?_ ?_ _); rotate_left; focus (first | omega | (simp; done) | (simp; omega))) | ((with_reducible refine Below.alloc ?_ ?_ _); rotate_left; focus (first | omega | (simp; done) | (simp; omega))) | (with_reducible refine Below.drew ?_) | (with_reducible refine below_drewN ?_ _) | (refine Below.trans ?_ (Below.mono (by with_reducible assumption) (by (first | omega | (simp; done) | (simp; omega)))))))) (by first | omega | (simp; done) | (simp; omega)))).mono ?_
    rintro e w1 ⟨rfl, hb1⟩
    have hz1 := hb1.size; try simp at hz1
    have BK0 : Blk w1 w.heap.size 26 #[.int .i64 c.Now, .slice A0 c.Timers.length c0] := by (repeat (first | (with_reducible assumption) | ((with_reducible refine Blk.new' ?_); focus (simp; done)) | (with_reducible refine Blk.alloc ?_ _) | (with_reducible refine Blk.drew ?_) | (with_reducible refine Blk.drewN ?_ _) | ((with_reducible refine Blk.far ?_ ?_ _); rotate_left; focus (first | omega | (simp; done) | (simp; omega))) | (refine Blk.keep ?_ (by with_reducible assumption)) | (refine Blk.below ?_ (by with_reducible assumption) (by (first | omega | (simp; done) | (simp; omega))))))
    have hc0 := BK0.cell; have hf0 := BK0.frozen; have hl0 := BK0.lt
    have BK1 : Blk w1 (w.heap.size + 1) 26 #[.int .i64 0, .slice none 0 0] := by (repeat (first | (with_reducible assumption) | ((with_reducible refine Blk.new' ?_); focus (simp; done)) | (with_reducible refine Blk.alloc ?_ _) | (with_reducible refine Blk.drew ?_) | (with_reducible refine Blk.drewN ?_ _) | ((with_reducible refine Blk.far ?_ ?_ _); rotate_left; focus (first | omega | (simp; done) | (simp; omega))) | (refine Blk.keep ?_ (by with_reducible assumption)) | (refine Blk.below ?_ (by with_reducible assumption) (by (first | omega | (simp; done) | (simp; omega))))))
    have hc1 := BK1.cell; have hf1 := BK1.frozen; have hl1 := BK1.lt
    have BKT : Blk w1 (w.heap.size + 1 + 1) 52 #[.int .i64 at_, .int .i64 id] := by (repeat (first | (with_reducible assumption) | ((with_reducible refine Blk.new' ?_); focus (simp; done)) | (with_reducible refine Blk.alloc ?_ _) | (with_reducible refine Blk.drew ?_) | (with_reducible refine Blk.drewN ?_ _) | ((with_reducible refine Blk.far ?_ ?_ _); rotate_left; focus (first | omega | (simp; done) | (simp; omega))) | (refine Blk.keep ?_ (by with_reducible assumption)) | (refine Blk.below ?_ (by with_reducible assumption) (by (first | omega | (simp; done) | (simp; omega))))))
    have hcT := BKT.cell; have hfT := BKT.frozen; have hlT := BKT.lt
    go_wp2_with fail
    refine (HTk.out _).mono ?_
    rintro e w2 ⟨rfl, hb2⟩
    have hz2 := hb2.size; try simp at hz2
    replace BK0 : Blk w2 w.heap.size 26 #[.int .i64 c.Now, .slice A0 c.Timers.length c0] := by (repeat (first | (with_reducible assumption) | ((with_reducible refine Blk.new' ?_); focus (simp; done)) | (with_reducible refine Blk.alloc ?_ _) | (with_reducible refine Blk.drew ?_) | (with_reducible refine Blk.drewN ?_ _) | ((with_reducible refine Blk.far ?_ ?_ _); rotate_left; focus (first | omega | (simp; done) | (simp; omega))) | (refine Blk.keep ?_ (by with_reducible assumption)) | (refine Blk.below ?_ (by with_reducible assumption) (by (first | omega | (simp; done) | (simp; omega))))))
    replace hc0 := BK0.cell; replace hf0 := BK0.frozen; replace hl0 := BK0.lt
    replace BK1 : Blk w2 (w.heap.size + 1) 26 #[.int .i64 0, .slice none 0 0] := by (repeat (first | (with_reducible assumption) | ((with_reducible refine Blk.new' ?_); focus (simp; done)) | (with_reducible refine Blk.alloc ?_ _) | (with_reducible refine Blk.drew ?_) | (with_reducible refine Blk.drewN ?_ _) | ((with_reducible refine Blk.far ?_ ?_ _); rotate_left; focus (first | omega | (simp; done) | (simp; omega))) | (refine Blk.keep ?_ (by with_reducible assumption)) | (refine Blk.below ?_ (by with_reducible assumption) (by (first | omega | (simp; done) | (simp; omega))))))
    replace hc1 := BK1.cell; replace hf1 := BK1.frozen; replace hl1 := BK1.lt
    replace BKT : Blk w2 (w.heap.size + 1 + 1) 52 #[.int .i64 at_, .int .i64 id] := by (repeat (first | (with_reducible assumption) | ((with_reducible refine Blk.new' ?_); focus (simp; done)) | (with_reducible refine Blk.alloc ?_ _) | (with_reducible refine Blk.drew ?_) | (with_reducible refine Blk.drewN ?_ _) | ((with_reducible refine Blk.far ?_ ?_ _); rotate_left; focus (first | omega | (simp; done) | (simp; omega))) | (refine Blk.keep ?_ (by with_reducible assumption)) | (refine Blk.below ?_ (by with_reducible assumption) (by (first | omega | (simp; done) | (simp; omega))))))
    replace hcT := BKT.cell; replace hfT := BKT.frozen; replace hlT := BKT.lt
    go_wp2_with fail
    refine (HCl.out _ (HR.out _ (by (repeat (first | (with_reducible exact Below.refl _ _) | (with_reducible assumption) | ((with_reducible refine Below.setCell ?_ ?_ _); rotate_left; focus (first | omega | (simp; done) | (simp; omega))) | ((with_reducible refine Below.alloc ?_ ?_ _); rotate_left; focus (first | omega | (simp; done) | (simp; omega))) | (with_reducible refine Below.drew ?_) | (with_reducible refine below_drewN ?_ _) | (refine Below.trans ?_ (Below.mono (by with_reducible assumption) (by (first | omega | (simp; done) | (simp; omega)))))))) (by first | omega | (simp; done) | (simp; omega)))).mono ?_
    rintro e w3 ⟨D, d, rfl, ho3, hb3⟩
    replace ho3 := own_base (base' := w.heap.size + 2) ho3 (by first | omega | (simp; done) | (simp; omega))
    have hz3 := hb3.size; try simp at hz3
    replace BK0 : Blk w3 w.heap.size 26 #[.int .i64 c.Now, .slice A0 c.Timers.length c0] := by (repeat (first | (with_reducible assumption) | ((with_reducible refine Blk.new' ?_); focus (simp; done)) | (with_reducible refine Blk.alloc ?_ _) | (with_reducible refine Blk.drew ?_) | (with_reducible refine Blk.drewN ?_ _) | ((with_reducible refine Blk.far ?_ ?_ _); rotate_left; focus (first | omega | (simp; done) | (simp; omega))) | (refine Blk.keep ?_ (by with_reducible assumption)) | (refine Blk.below ?_ (by with_reducible assumption) (by (first | omega | (simp; done) | (simp; omega))))))
    replace hc0 := BK0.cell; replace hf0 := BK0.frozen; replace hl0 := BK0.lt
    replace BK1 : Blk w3 (w.heap.size + 1) 26 #[.int .i64 0, .slice none 0 0] := by (repeat (first | (with_reducible assumption) | ((with_reducible refine Blk.new' ?_); focus (simp; done)) | (with_reducible refine Blk.alloc ?_ _) | (with_reducible refine Blk.drew ?_) | (with_reducible refine Blk.drewN ?_ _) | ((with_reducible refine Blk.far ?_ ?_ _); rotate_left; focus (first | omega | (simp; done) | (simp; omega))) | (refine Blk.keep ?_ (by with_reducible assumption)) | (refine Blk.below ?_ (by with_reducible assumption) (by (first | omega | (simp; done) | (simp; omega))))))
    replace hc1 := BK1.cell; replace hf1 := BK1.frozen; replace hl1 := BK1.lt
    replace BKT : Blk w3 (w.heap.size + 1 + 1) 52 #[.int .i64 at_, .int .i64 id] := by (repeat (first | (with_reducible assumption) | ((with_reducible refine Blk.new' ?_); focus (simp; done)) | (with_reducible refine Blk.alloc ?_ _) | (with_reducible refine Blk.drew ?_) | (with_reducible refine Blk.drewN ?_ _) | ((with_reducible refine Blk.far ?_ ?_ _); rotate_left; focus (first | omega | (simp; done) | (simp; omega))) | (refine Blk.keep ?_ (by with_reducible assumption)) | (refine Blk.below ?_ (by with_reducible assumption) (by (first | omega | (simp; done) | (simp; omega))))))
    replace hcT := BKT.cell; replace hfT := BKT.frozen; replace hlT := BKT.lt
    go_wp2
    refine bodyPost_ret (v := .tuple #[.agg #[.int .i64 c.Now, .slice D c.Timers.length d], .bool false]) (by simp [results, Try.results21, go_sem, hc1, hf1]) rfl ⟨D, d, rfl, ?_, by (repeat (first | (with_reducible exact Below.refl _ _) | (with_reducible assumption) | ((with_reducible refine Below.setCell ?_ ?_ _); rotate_left; focus (first | omega | (simp; done) | (simp; omega))) | ((with_reducible refine Below.alloc ?_ ?_ _); rotate_left; focus (first | omega | (simp; done) | (simp; omega))) | (with_reducible refine Below.drew ?_) | (with_reducible refine below_drewN ?_ _) | (refine Below.trans ?_ (Below.mono (by with_reducible assumption) (by (first | omega | (simp; done) | (simp; omega)))))))⟩
    (repeat (first | (with_reducible exact ho3) | ((with_reducible refine own_setCell ?_ ?_ _); rotate_left; focus (first | omega | (simp; done) | (simp; omega))) | (with_reducible refine World.ownsRow.alloc ?_ _) | (with_reducible refine own_drew ?_) | (with_reducible refine own_drewN ?_ _) | (refine own_below ?_ (by with_reducible assumption))))
  have hd300 : decide ((c.Timers.length : Int) = 300) = false := decide_eq_false (by omega)
  have hd301 : ((c.Timers.length : Int) == 300) = false := by simp; omega
  have hfit : (without c.Timers id).length + 1 ≤ 300 := by rw [HAll.out hx]; omega
  have hN : setB c id at_ = true := by rw [hB, decide_eq_true (Int.not_lt.1 hnow), ht, decide_eq_true hfit]; rfl
  rw [hN, setC_yes hN]
  clear hN
  have hsl : (setL c id at_).length = (without c.Timers id).length + 1 := insT_len _ _
  have hwa := HAll.out hx
  have HUl : Hid ((without c.Timers id).length = c.Timers.length) := Lib.hid (by rw [hwa])
  have HWa := Lib.hid hwa
  clear hwa
  have HLen : Hid ((setL c id at_).length = c.Timers.length + 1) := Lib.hid (by rw [hsl, HUl.out])
  rw [HUl.out] at hfit
  clear hsl
  have HTk := Lib.hid (fun (w' : World) => (ht ▸ impl_isTimer ⟨at_, id⟩ w' : Calls Try.prog 34 #[.agg #[.int .i64 at_, .int .i64 id]] w' fun e w'' => e = .returned (.bool true) ∧ Below w'.heap.size w' w''))
  clear ht hB hok
  go_enter Try.func21, Try.ntmps21
  go_wp2_with fail
  refine (HIx.out _ (HR.out _ (by (repeat (first | (with_reducible exact Below.refl _ _) | (with_reducible assumption) | ((with_reducible refine Below.setCell ?_ ?_ _); rotate_left; focus (first | omega | (simp; done) | (simp; omega))) | ((with_reducible refine Below.alloc ?_ ?_ _); rotate_left; focus (first | omega | (simp; done) | (simp; omega))) | (with_reducible refine Below.drew ?_) | (with_reducible refine below_drewN ?_ _) | (refine Below.trans ?_ (Below.mono (by with_reducible assumption) (by (first | omega | (simp; done) | (simp; omega)))))))) (by first | omega | (simp; done) | (simp; omega)))).mono ?_
  rintro e w1 ⟨rfl, hb1⟩
  have hz1 := hb1.size; try simp at hz1
  have BK0 : Blk w1 w.heap.size 26 #[.int .i64 c.Now, .slice A0 c.Timers.length c0] := by (repeat (first | (with_reducible assumption) | ((with_reducible refine Blk.new' ?_); focus (simp; done)) | (with_reducible refine Blk.alloc ?_ _) | (with_reducible refine Blk.drew ?_) | (with_reducible refine Blk.drewN ?_ _) | ((with_reducible refine Blk.far ?_ ?_ _); rotate_left; focus (first | omega | (simp; done) | (simp; omega))) | (refine Blk.keep ?_ (by with_reducible assumption)) | (refine Blk.below ?_ (by with_reducible assumption) (by (first | omega | (simp; done) | (simp; omega))))))
  have hc0 := BK0.cell; have hf0 := BK0.frozen; have hl0 := BK0.lt
  have BK1 : Blk w1 (w.heap.size + 1) 26 #[.int .i64 0, .slice none 0 0] := by (repeat (first | (with_reducible assumption) | ((with_reducible refine Blk.new' ?_); focus (simp; done)) | (with_reducible refine Blk.alloc ?_ _) | (with_reducible refine Blk.drew ?_) | (with_reducible refine Blk.drewN ?_ _) | ((with_reducible refine Blk.far ?_ ?_ _); rotate_left; focus (first | omega | (simp; done) | (simp; omega))) | (refine Blk.keep ?_ (by with_reducible assumption)) | (refine Blk.below ?_ (by with_reducible assumption) (by (first | omega | (simp; done) | (simp; omega))))))
  have hc1 := BK1.cell; have hf1 := BK1.frozen; have hl1 := BK1.lt
  have BKT : Blk w1 (w.heap.size + 1 + 1) 52 #[.int .i64 at_, .int .i64 id] := by (repeat (first | (with_reducible assumption) | ((with_reducible refine Blk.new' ?_); focus (simp; done)) | (with_reducible refine Blk.alloc ?_ _) | (with_reducible refine Blk.drew ?_) | (with_reducible refine Blk.drewN ?_ _) | ((with_reducible refine Blk.far ?_ ?_ _); rotate_left; focus (first | omega | (simp; done) | (simp; omega))) | (refine Blk.keep ?_ (by with_reducible assumption)) | (refine Blk.below ?_ (by with_reducible assumption) (by (first | omega | (simp; done) | (simp; omega))))))
  have hcT := BKT.cell; have hfT := BKT.frozen; have hlT := BKT.lt
  go_wp2_with fail
  refine (HTk.out _).mono ?_
  rintro e w2 ⟨rfl, hb2⟩
  have hz2 := hb2.size; try simp at hz2
  replace BK0 : Blk w2 w.heap.size 26 #[.int .i64 c.Now, .slice A0 c.Timers.length c0] := by (repeat (first | (with_reducible assumption) | ((with_reducible refine Blk.new' ?_); focus (simp; done)) | (with_reducible refine Blk.alloc ?_ _) | (with_reducible refine Blk.drew ?_) | (with_reducible refine Blk.drewN ?_ _) | ((with_reducible refine Blk.far ?_ ?_ _); rotate_left; focus (first | omega | (simp; done) | (simp; omega))) | (refine Blk.keep ?_ (by with_reducible assumption)) | (refine Blk.below ?_ (by with_reducible assumption) (by (first | omega | (simp; done) | (simp; omega))))))
  replace hc0 := BK0.cell; replace hf0 := BK0.frozen; replace hl0 := BK0.lt
  replace BK1 : Blk w2 (w.heap.size + 1) 26 #[.int .i64 0, .slice none 0 0] := by (repeat (first | (with_reducible assumption) | ((with_reducible refine Blk.new' ?_); focus (simp; done)) | (with_reducible refine Blk.alloc ?_ _) | (with_reducible refine Blk.drew ?_) | (with_reducible refine Blk.drewN ?_ _) | ((with_reducible refine Blk.far ?_ ?_ _); rotate_left; focus (first | omega | (simp; done) | (simp; omega))) | (refine Blk.keep ?_ (by with_reducible assumption)) | (refine Blk.below ?_ (by with_reducible assumption) (by (first | omega | (simp; done) | (simp; omega))))))
  replace hc1 := BK1.cell; replace hf1 := BK1.frozen; replace hl1 := BK1.lt
  replace BKT : Blk w2 (w.heap.size + 1 + 1) 52 #[.int .i64 at_, .int .i64 id] := by (repeat (first | (with_reducible assumption) | ((with_reducible refine Blk.new' ?_); focus (simp; done)) | (with_reducible refine Blk.alloc ?_ _) | (with_reducible refine Blk.drew ?_) | (with_reducible refine Blk.drewN ?_ _) | ((with_reducible refine Blk.far ?_ ?_ _); rotate_left; focus (first | omega | (simp; done) | (simp; omega))) | (refine Blk.keep ?_ (by with_reducible assumption)) | (refine Blk.below ?_ (by with_reducible assumption) (by (first | omega | (simp; done) | (simp; omega))))))
  replace hcT := BKT.cell; replace hfT := BKT.frozen; replace hlT := BKT.lt
  have hbw2 : Below w.heap.size w w2 := by (repeat (first | (with_reducible exact Below.refl _ _) | (with_reducible assumption) | ((with_reducible refine Below.setCell ?_ ?_ _); rotate_left; focus (first | omega | (simp; done) | (simp; omega))) | ((with_reducible refine Below.alloc ?_ ?_ _); rotate_left; focus (first | omega | (simp; done) | (simp; omega))) | (with_reducible refine Below.drew ?_) | (with_reducible refine below_drewN ?_ _) | (refine Below.trans ?_ (Below.mono (by with_reducible assumption) (by (first | omega | (simp; done) | (simp; omega)))))))
  go_wp2_with fail
  refine (HCl.out _ (HR.out _ (by (repeat (first | (with_reducible exact Below.refl _ _) | (with_reducible assumption) | ((with_reducible refine Below.setCell ?_ ?_ _); rotate_left; focus (first | omega | (simp; done) | (simp; omega))) | ((with_reducible refine Below.alloc ?_ ?_ _); rotate_left; focus (first | omega | (simp; done) | (simp; omega))) | (with_reducible refine Below.drew ?_) | (with_reducible refine below_drewN ?_ _) | (refine Below.trans ?_ (Below.mono (by with_reducible assumption) (by (first | omega | (simp; done) | (simp; omega)))))))) (by first | omega | (simp; done) | (simp; omega)))).mono ?_
  rintro e w3 ⟨D, d, rfl, ho3, hb3⟩
  replace ho3 := own_base (base' := w2.heap.size) ho3 (by omega)
  have hz3 := hb3.size; try simp at hz3
  replace BK0 : Blk w3 w.heap.size 26 #[.int .i64 c.Now, .slice A0 c.Timers.length c0] := by (repeat (first | (with_reducible assumption) | ((with_reducible refine Blk.new' ?_); focus (simp; done)) | (with_reducible refine Blk.alloc ?_ _) | (with_reducible refine Blk.drew ?_) | (with_reducible refine Blk.drewN ?_ _) | ((with_reducible refine Blk.far ?_ ?_ _); rotate_left; focus (first | omega | (simp; done) | (simp; omega))) | (refine Blk.keep ?_ (by with_reducible assumption)) | (refine Blk.below ?_ (by with_reducible assumption) (by (first | omega | (simp; done) | (simp; omega))))))
  replace hc0 := BK0.cell; replace hf0 := BK0.frozen; replace hl0 := BK0.lt
  replace BK1 : Blk w3 (w.heap.size + 1) 26 #[.int .i64 0, .slice none 0 0] := by (repeat (first | (with_reducible assumption) | ((with_reducible refine Blk.new' ?_); focus (simp; done)) | (with_reducible refine Blk.alloc ?_ _) | (with_reducible refine Blk.drew ?_) | (with_reducible refine Blk.drewN ?_ _) | ((with_reducible refine Blk.far ?_ ?_ _); rotate_left; focus (first | omega | (simp; done) | (simp; omega))) | (refine Blk.keep ?_ (by with_reducible assumption)) | (refine Blk.below ?_ (by with_reducible assumption) (by (first | omega | (simp; done) | (simp; omega))))))
  replace hc1 := BK1.cell; replace hf1 := BK1.frozen; replace hl1 := BK1.lt
  replace BKT : Blk w3 (w.heap.size + 1 + 1) 52 #[.int .i64 at_, .int .i64 id] := by (repeat (first | (with_reducible assumption) | ((with_reducible refine Blk.new' ?_); focus (simp; done)) | (with_reducible refine Blk.alloc ?_ _) | (with_reducible refine Blk.drew ?_) | (with_reducible refine Blk.drewN ?_ _) | ((with_reducible refine Blk.far ?_ ?_ _); rotate_left; focus (first | omega | (simp; done) | (simp; omega))) | (refine Blk.keep ?_ (by with_reducible assumption)) | (refine Blk.below ?_ (by with_reducible assumption) (by (first | omega | (simp; done) | (simp; omega))))))
  replace hcT := BKT.cell; replace hfT := BKT.frozen; replace hlT := BKT.lt
  have hbw3 : Below w.heap.size w w3 := by (repeat (first | (with_reducible exact Below.refl _ _) | (with_reducible assumption) | ((with_reducible refine Below.setCell ?_ ?_ _); rotate_left; focus (first | omega | (simp; done) | (simp; omega))) | ((with_reducible refine Below.alloc ?_ ?_ _); rotate_left; focus (first | omega | (simp; done) | (simp; omega))) | (with_reducible refine Below.drew ?_) | (with_reducible refine below_drewN ?_ _) | (refine Below.trans ?_ (Below.mono (by with_reducible assumption) (by (first | omega | (simp; done) | (simp; omega)))))))
  clear hbw2
  go_wp2_with fail
  have BKO : Blk (w3.alloc (.cells #[.int .i64 c.Now, .slice D c.Timers.length d] 26)) w3.heap.size 26 #[.int .i64 c.Now, .slice D c.Timers.length d] := Blk.new _ _ _
  replace BK1 := BK1.alloc (.cells #[.int .i64 c.Now, .slice D c.Timers.length d] 26)
  replace BKT := BKT.alloc (.cells #[.int .i64 c.Now, .slice D c.Timers.length d] 26)
  have hoS : World.ownsRow (w3.alloc (.cells #[.int .i64 c.Now, .slice D c.Timers.length d] 26)) w2.heap.size 52 2 (.slice D c.Timers.length d) c.Timers.length ((without c.Timers id).flatMap Timer.cells) := by rw [HWa.out]; exact ho3.alloc _
  have hbS : Below w.heap.size w (w3.alloc (.cells #[.int .i64 c.Now, .slice D c.Timers.length d] 26)) := by (repeat (first | (with_reducible exact Below.refl _ _) | (with_reducible assumption) | ((with_reducible refine Below.setCell ?_ ?_ _); rotate_left; focus (first | omega | (simp; done) | (simp; omega))) | ((with_reducible refine Below.alloc ?_ ?_ _); rotate_left; focus (first | omega | (simp; done) | (simp; omega))) | (with_reducible refine Below.drew ?_) | (with_reducible refine below_drewN ?_ _) | (refine Below.trans ?_ (Below.mono (by with_reducible assumption) (by (first | omega | (simp; done) | (simp; omega)))))))
  have hzS : w2.heap.size ≤ (w3.alloc (.cells #[.int .i64 c.Now, .slice D c.Timers.length d] 26)).heap.size := by simp; omega
  clear hc0 hf0 hl0 BK0 hc1 hf1 hl1 hcT hfT hlT hb1 hb2 hb3 ho3
  have hcO := BKO.cell; have hfO := BKO.frozen; have hlO := BKO.lt; have hc1 := BK1.cell; have hf1 := BK1.frozen; have hl1 := BK1.lt; have hcT := BKT.cell; have hfT := BKT.frozen; have hlT := BKT.lt
  obtain ⟨DS, hDS⟩ : ∃ DS, DS = D := ⟨_, rfl⟩
  obtain ⟨dS, hdS⟩ : ∃ dS, dS = d := ⟨_, rfl⟩
  subst hDS hdS
  generalize (w3.alloc (.cells #[.int .i64 c.Now, .slice DS c.Timers.length dS] 26)) = ws at *
  clear hcO hfO hlO
  have hcO := BKO.cell; have hfO := BKO.frozen; have hlO := BKO.lt
  replace hc1 := BK1.cell; replace hf1 := BK1.frozen; replace hl1 := BK1.lt; replace hcT := BKT.cell; replace hfT := BKT.frozen; replace hlT := BKT.lt
  have HSe := Lib.hid (fun (w' : World) (hr : Reads w' w'.heap.size DS ((without c.Timers id).flatMap Timer.cells)) => (HUl.out ▸ slices_Search_Timer DS dS (without c.Timers id) ⟨at_, id⟩ w' hr (by rw [HUl.out]; omega) HSub.out HIds.out : Calls Try.prog 38 #[.slice DS c.Timers.length dS, .agg #[.int .i64 at_, .int .i64 id], .func (.func 35) #[] #[]] w' fun e w'' => ∃ b, e = .returned (.tuple #[.int .i64 (insAt (without c.Timers id) ⟨at_, id⟩ : Nat), .bool b]) ∧ Below w'.heap.size w' w''))
  have hle := insAt_le (without c.Timers id) ⟨at_, id⟩
  rw [HUl.out] at hle
  have HSet : Hid (setL c id at_ = (without c.Timers id).take (insAt (without c.Timers id) ⟨at_, id⟩) ++ ⟨at_, id⟩ :: (without c.Timers id).drop (insAt (without c.Timers id) ⟨at_, id⟩)) := Lib.hid rfl
  generalize hp : insAt (without c.Timers id) ⟨at_, id⟩ = p at *
  have HP := Lib.hid hp
  clear hp
  go_wp2_with fail
  refine (HSe.out _ ((Reads.of_own hoS).more (Nat.le_refl _))).mono ?_
  rintro e w5 ⟨bb, rfl, hb5⟩
  have hz5 := hb5.size
  replace BKO := BKO.keep hb5; replace BK1 := BK1.keep hb5; replace BKT := BKT.keep hb5
  replace hcO := BKO.cell; replace hfO := BKO.frozen; replace hlO := BKO.lt; replace hc1 := BK1.cell; replace hf1 := BK1.frozen; replace hl1 := BK1.lt; replace hcT := BKT.cell; replace hfT := BKT.frozen; replace hlT := BKT.lt
  have hbS5 : Below w.heap.size w w5 := hbS.trans (hb5.mono hbS.size)
  have hoS5 := own_below hoS hb5
  have hvb : (Value.slice DS c.Timers.length dS).ownBlock ≠ some w5.heap.size := fun e => by have := (hoS5.lt _ e).2; omega
  have HIn := Lib.hid (slices_Insert_Timer w2.heap.size DS c.Timers.length dS (without c.Timers id) p ⟨at_, id⟩ w5.heap.size (w5.alloc (.cells #[.int .i64 at_, .int .i64 id] 52)) (hoS5.alloc _) HUl.out hle (by omega) (Blk.new _ _ _) hvb (by simp; omega))
  go_wp2_with fail
  refine HIn.out.mono ?_
  rintro e w6 ⟨A6, c6, rfl, ho6, hg6⟩
  have hz6 := hg6.size
  have hz62 : w5.heap.size + 1 ≤ w6.heap.size := by simpa using hz6
  have hltS : ∀ q, (Value.slice DS c.Timers.length dS).ownBlock = some q → w2.heap.size ≤ q ∧ q < w5.heap.size := fun q e => hoS5.lt q e
  have hneB : ∀ (q : Nat) (t : TypeId) (cs : Array Value), Blk w5 q t cs → 52 ≠ t → some q ≠ (Value.slice DS c.Timers.length dS).ownBlock := fun q t cs hbq ht e => own_ne_blk hoS5 hbq ht q e.symm rfl
  have BKO6 := (BKO.alloc (.cells #[.int .i64 at_, .int .i64 id] 52)).grown hg6 (hneB _ _ _ BKO (by decide))
  have BK16 := (BK1.alloc (.cells #[.int .i64 at_, .int .i64 id] 52)).grown hg6 (hneB _ _ _ BK1 (by decide))
  replace hcO := BKO6.cell; replace hfO := BKO6.frozen; replace hlO := BKO6.lt; replace hc1 := BK16.cell; replace hf1 := BK16.frozen; replace hl1 := BK16.lt
  have hb6 : Below w.heap.size w w6 := Below.grown (Below.alloc hbS5 hbS5.size (.cells #[.int .i64 at_, .int .i64 id] 52)) hg6 (by simp; omega) (fun q e => by have := hltS q e; omega)
  have hneO := own_ne_blk ho6 BKO6 (by decide)
  have hneR := own_ne_blk ho6 BK16 (by decide)
  clear hb5 hbS hbS5 hoS hoS5 HIn HSe
  go_wp2
  refine bodyPost_ret (v := .tuple #[.agg #[.int .i64 c.Now, .slice A6 (c.Timers.length + 1) c6], .bool true]) (by simp [results, Try.results21, go_sem, hc1, hf1, hcO, hfO]) rfl ⟨A6, c6, by rw [HLen.out], ?_, by (repeat (first | (with_reducible exact Below.refl _ _) | (with_reducible assumption) | ((with_reducible refine Below.setCell ?_ ?_ _); rotate_left; focus (first | omega | (simp; done) | (simp; omega))) | ((with_reducible refine Below.alloc ?_ ?_ _); rotate_left; focus (first | omega | (simp; done) | (simp; omega))) | (with_reducible refine Below.drew ?_) | (with_reducible refine below_drewN ?_ _) | (refine Below.trans ?_ (Below.mono (by with_reducible assumption) (by (first | omega | (simp; done) | (simp; omega)))))))⟩
  rw [HLen.out, HSet.out]
  refine own_base (base := w2.heap.size) ?_ (by omega)
  repeat (first | exact ho6 | (refine own_setCell_off ?_ (by first | exact hneO | exact hneR) _))
end Go.Proofs.Ythahnaigdoiddaa

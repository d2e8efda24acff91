/- Advance of the program. -/
import Derived.Test.YthahnaigdoiddaaImplAdv
set_option linter.unusedSimpArgs false
set_option linter.unusedVariables false
set_option maxRecDepth 20000
namespace Go.Proofs.Ythahnaigdoiddaa
open Go.RowKit
theorem PairC.form {w : World} {lo : Nat} {cs : List Value} {c : Clock} {v : Value} {ys : List Int} (h : PairC w lo cs c v ys) : ∃ A d, cs = [.int .i64 c.Now, .slice A c.Timers.length d] := by
  obtain ⟨Sa, Sb, h1, _⟩ := h
  obtain ⟨v0, _, rfl, q, _⟩ := own_Clock h1
  obtain ⟨A, d, rfl⟩ := q.form
  exact ⟨A, d, rfl⟩
theorem PairC.formv {w : World} {lo : Nat} {cs : List Value} {c : Clock} {v : Value} {ys : List Int} (h : PairC w lo cs c v ys) : ∃ A d, v = .slice A ys.length d := by
  obtain ⟨Sa, Sb, _, h1, _⟩ := h
  exact h1.form
theorem PairC.off {w w' : World} {lo lo' : Nat} {cs : List Value} {c : Clock} {v : Value} {ys : List Int} (h : PairC w lo cs c v ys) (ho : Out (Off lo w.heap.size) w w') (h1 : lo' ≤ lo) (h2 : w.heap.size ≤ w'.heap.size) : PairC w' lo' cs c v ys := by
  obtain ⟨Sa, Sb, a, b, sa, sb, d⟩ := h
  exact ⟨Sa, Sb, ClockR.own_offS a sa ho, SlOwn.offS b sb ho, fun g hg => inR_mono h1 h2 g (sa g hg), fun g hg => inR_mono h1 h2 g (sb g hg), d⟩
set_option maxHeartbeats 3200000 in
theorem impl_AdvanceL (cs : List Value) (c : Clock) (now : Int) (w : World) (h : ClockR.Rd w w.heap.size cs c) (hm : ClockR.sz c ≤ 1048576) :
    Calls Try.prog 10 #[.agg cs.toArray, .int .i64 now] w fun e w' => ∃ cs' v, e = .returned (.tuple #[.agg cs'.toArray, v]) ∧ PairC w' w.heap.size cs' (advC c now) v (advI c now) ∧ Below w.heap.size w w' := by
  obtain ⟨v0, rfl, q0⟩ := rd_Clock h
  obtain ⟨A0, c0, rfl⟩ := q0.form
  cases hok : clockOk c.Now c.Timers
  · have HN := Lib.hid (adv_no (c := c) (now := now) (by unfold advB; rw [hok]; rfl))
    have HOk := Lib.hid (fun (w' : World) (hr : ClockR.Rd w' w'.heap.size [.int .i64 c.Now, .slice A0 c.Timers.length c0] c) => impl_isClock2 _ c w' hr hm)
    rw [hok] at HOk
    clear hok
    rw [HN.out.1, HN.out.2]
    go_enter Try.func10, Try.ntmps10
    go_wp2_with fail
    refine (HOk.out _ (ClockR.rd_keep h (by (repeat (first | (with_reducible exact Below.refl _ _) | (with_reducible assumption) | ((with_reducible refine Below.setCell ?_ ?_ _); rotate_left; focus (first | omega | (simp; done) | (simp; omega))) | ((with_reducible refine Below.alloc ?_ ?_ _); rotate_left; focus (first | omega | (simp; done) | (simp; omega))) | (with_reducible refine Below.drew ?_) | (with_reducible refine below_drewN ?_ _) | (refine Below.trans ?_ (Below.mono (by with_reducible assumption) (by (first | omega | (simp; done) | (simp; omega)))))))) (by first | omega | (simp; done) | (simp; omega)))).mono ?_
    rintro e w1 ⟨rfl, hb1⟩
    have hz1 := hb1.size; try simp at hz1
    have BK0 : Blk w1 w.heap.size 26 #[.int .i64 c.Now, .slice A0 c.Timers.length c0] := by (repeat (first | (with_reducible assumption) | ((with_reducible refine Blk.new' ?_); focus (simp; done)) | (with_reducible refine Blk.alloc ?_ _) | (with_reducible refine Blk.drew ?_) | (with_reducible refine Blk.drewN ?_ _) | ((with_reducible refine Blk.far ?_ ?_ _); rotate_left; focus (first | omega | (simp; done) | (simp; omega))) | (refine Blk.keep ?_ (by with_reducible assumption)) | (refine Blk.below ?_ (by with_reducible assumption) (by (first | omega | (simp; done) | (simp; omega))))))
    have hc0 := BK0.cell; have hf0 := BK0.frozen; have hl0 := BK0.lt
    have BK1 : Blk w1 (w.heap.size + 1) 26 #[.int .i64 0, .slice none 0 0] := by (repeat (first | (with_reducible assumption) | ((with_reducible refine Blk.new' ?_); focus (simp; done)) | (with_reducible refine Blk.alloc ?_ _) | (with_reducible refine Blk.drew ?_) | (with_reducible refine Blk.drewN ?_ _) | ((with_reducible refine Blk.far ?_ ?_ _); rotate_left; focus (first | omega | (simp; done) | (simp; omega))) | (refine Blk.keep ?_ (by with_reducible assumption)) | (refine Blk.below ?_ (by with_reducible assumption) (by (first | omega | (simp; done) | (simp; omega))))))
    have hc1 := BK1.cell; have hf1 := BK1.frozen; have hl1 := BK1.lt
    go_wp2_with fail
    refine (impl_cloneClock _ c _ (ClockR.rd_keep h (by (repeat (first | (with_reducible exact Below.refl _ _) | (with_reducible assumption) | ((with_reducible refine Below.setCell ?_ ?_ _); rotate_left; focus (first | omega | (simp; done) | (simp; omega))) | ((with_reducible refine Below.alloc ?_ ?_ _); rotate_left; focus (first | omega | (simp; done) | (simp; omega))) | (with_reducible refine Below.drew ?_) | (with_reducible refine below_drewN ?_ _) | (refine Below.trans ?_ (Below.mono (by with_reducible assumption) (by (first | omega | (simp; done) | (simp; omega)))))))) (by first | omega | (simp; done) | (simp; omega))) hm).mono ?_
    rintro e w2 ⟨D, d, rfl, ho2, hb2⟩
    have hz2 := hb2.size; try simp at hz2
    replace BK0 : Blk w2 w.heap.size 26 #[.int .i64 c.Now, .slice A0 c.Timers.length c0] := by (repeat (first | (with_reducible assumption) | ((with_reducible refine Blk.new' ?_); focus (simp; done)) | (with_reducible refine Blk.alloc ?_ _) | (with_reducible refine Blk.drew ?_) | (with_reducible refine Blk.drewN ?_ _) | ((with_reducible refine Blk.far ?_ ?_ _); rotate_left; focus (first | omega | (simp; done) | (simp; omega))) | (refine Blk.keep ?_ (by with_reducible assumption)) | (refine Blk.below ?_ (by with_reducible assumption) (by (first | omega | (simp; done) | (simp; omega))))))
    replace hc0 := BK0.cell; replace hf0 := BK0.frozen; replace hl0 := BK0.lt
    replace BK1 : Blk w2 (w.heap.size + 1) 26 #[.int .i64 0, .slice none 0 0] := by (repeat (first | (with_reducible assumption) | ((with_reducible refine Blk.new' ?_); focus (simp; done)) | (with_reducible refine Blk.alloc ?_ _) | (with_reducible refine Blk.drew ?_) | (with_reducible refine Blk.drewN ?_ _) | ((with_reducible refine Blk.far ?_ ?_ _); rotate_left; focus (first | omega | (simp; done) | (simp; omega))) | (refine Blk.keep ?_ (by with_reducible assumption)) | (refine Blk.below ?_ (by with_reducible assumption) (by (first | omega | (simp; done) | (simp; omega))))))
    replace hc1 := BK1.cell; replace hf1 := BK1.frozen; replace hl1 := BK1.lt
    go_wp2
    refine bodyPost_ret (v := .tuple #[.agg #[.int .i64 c.Now, .slice D c.Timers.length d], .slice none 0 0]) (by simp [results, Try.results10, go_sem, hc1, hf1]) rfl ⟨[.int .i64 c.Now, .slice D c.Timers.length d], .slice none 0 0, rfl, ?_, by (repeat (first | (with_reducible exact Below.refl _ _) | (with_reducible assumption) | ((with_reducible refine Below.setCell ?_ ?_ _); rotate_left; focus (first | omega | (simp; done) | (simp; omega))) | ((with_reducible refine Below.alloc ?_ ?_ _); rotate_left; focus (first | omega | (simp; done) | (simp; omega))) | (with_reducible refine Below.drew ?_) | (with_reducible refine below_drewN ?_ _) | (refine Below.trans ?_ (Below.mono (by with_reducible assumption) (by (first | omega | (simp; done) | (simp; omega)))))))⟩
    refine PairC.of (own_base (base := w1.heap.size + 2) ?_ (by omega)) rfl (World.ownsRow_nil _ _ _ _) rfl (fun g _ => by simp [Value.ownBlock])
    (repeat (first | (with_reducible exact ho2) | ((with_reducible refine own_setCell ?_ ?_ _); rotate_left; focus (first | omega | (simp; done) | (simp; omega))) | (with_reducible refine World.ownsRow.alloc ?_ _) | (with_reducible refine own_drew ?_) | (with_reducible refine own_drewN ?_ _) | (refine own_below ?_ (by with_reducible assumption))))
  have HOk := Lib.hid (fun (w' : World) (hr : ClockR.Rd w' w'.heap.size [.int .i64 c.Now, .slice A0 c.Timers.length c0] c) => impl_isClock2 _ c w' hr hm)
  rw [hok] at HOk
  have HAd := Lib.hid (fun (w' : World) (hr : ClockR.Rd w' w'.heap.size [.int .i64 c.Now, .slice A0 c.Timers.length c0] c) => impl_advance _ c now w' hr hm hok)
  clear hok
  go_enter Try.func10, Try.ntmps10
  go_wp2_with fail
  refine (HOk.out _ (ClockR.rd_keep h (by (repeat (first | (with_reducible exact Below.refl _ _) | (with_reducible assumption) | ((with_reducible refine Below.setCell ?_ ?_ _); rotate_left; focus (first | omega | (simp; done) | (simp; omega))) | ((with_reducible refine Below.alloc ?_ ?_ _); rotate_left; focus (first | omega | (simp; done) | (simp; omega))) | (with_reducible refine Below.drew ?_) | (with_reducible refine below_drewN ?_ _) | (refine Below.trans ?_ (Below.mono (by with_reducible assumption) (by (first | omega | (simp; done) | (simp; omega)))))))) (by first | omega | (simp; done) | (simp; omega)))).mono ?_
  rintro e w1 ⟨rfl, hb1⟩
  have hz1 := hb1.size; try simp at hz1
  have BK0 : Blk w1 w.heap.size 26 #[.int .i64 c.Now, .slice A0 c.Timers.length c0] := by (repeat (first | (with_reducible assumption) | ((with_reducible refine Blk.new' ?_); focus (simp; done)) | (with_reducible refine Blk.alloc ?_ _) | (with_reducible refine Blk.drew ?_) | (with_reducible refine Blk.drewN ?_ _) | ((with_reducible refine Blk.far ?_ ?_ _); rotate_left; focus (first | omega | (simp; done) | (simp; omega))) | (refine Blk.keep ?_ (by with_reducible assumption)) | (refine Blk.below ?_ (by with_reducible assumption) (by (first | omega | (simp; done) | (simp; omega))))))
  have hc0 := BK0.cell; have hf0 := BK0.frozen; have hl0 := BK0.lt
  have BK1 : Blk w1 (w.heap.size + 1) 26 #[.int .i64 0, .slice none 0 0] := by (repeat (first | (with_reducible assumption) | ((with_reducible refine Blk.new' ?_); focus (simp; done)) | (with_reducible refine Blk.alloc ?_ _) | (with_reducible refine Blk.drew ?_) | (with_reducible refine Blk.drewN ?_ _) | ((with_reducible refine Blk.far ?_ ?_ _); rotate_left; focus (first | omega | (simp; done) | (simp; omega))) | (refine Blk.keep ?_ (by with_reducible assumption)) | (refine Blk.below ?_ (by with_reducible assumption) (by (first | omega | (simp; done) | (simp; omega))))))
  have hc1 := BK1.cell; have hf1 := BK1.frozen; have hl1 := BK1.lt
  go_wp2_with fail
  refine (HAd.out _ (ClockR.rd_keep h (by (repeat (first | (with_reducible exact Below.refl _ _) | (with_reducible assumption) | ((with_reducible refine Below.setCell ?_ ?_ _); rotate_left; focus (first | omega | (simp; done) | (simp; omega))) | ((with_reducible refine Below.alloc ?_ ?_ _); rotate_left; focus (first | omega | (simp; done) | (simp; omega))) | (with_reducible refine Below.drew ?_) | (with_reducible refine below_drewN ?_ _) | (refine Below.trans ?_ (Below.mono (by with_reducible assumption) (by (first | omega | (simp; done) | (simp; omega)))))))) (by first | omega | (simp; done) | (simp; omega)))).mono ?_
  rintro e w2 ⟨cs', v, rfl, hp2, hb2⟩
  have hz2 := hb2.size; try simp at hz2
  replace BK0 : Blk w2 w.heap.size 26 #[.int .i64 c.Now, .slice A0 c.Timers.length c0] := by (repeat (first | (with_reducible assumption) | ((with_reducible refine Blk.new' ?_); focus (simp; done)) | (with_reducible refine Blk.alloc ?_ _) | (with_reducible refine Blk.drew ?_) | (with_reducible refine Blk.drewN ?_ _) | ((with_reducible refine Blk.far ?_ ?_ _); rotate_left; focus (first | omega | (simp; done) | (simp; omega))) | (refine Blk.keep ?_ (by with_reducible assumption)) | (refine Blk.below ?_ (by with_reducible assumption) (by (first | omega | (simp; done) | (simp; omega))))))
  replace hc0 := BK0.cell; replace hf0 := BK0.frozen; replace hl0 := BK0.lt
  replace BK1 : Blk w2 (w.heap.size + 1) 26 #[.int .i64 0, .slice none 0 0] := by (repeat (first | (with_reducible assumption) | ((with_reducible refine Blk.new' ?_); focus (simp; done)) | (with_reducible refine Blk.alloc ?_ _) | (with_reducible refine Blk.drew ?_) | (with_reducible refine Blk.drewN ?_ _) | ((with_reducible refine Blk.far ?_ ?_ _); rotate_left; focus (first | omega | (simp; done) | (simp; omega))) | (refine Blk.keep ?_ (by with_reducible assumption)) | (refine Blk.below ?_ (by with_reducible assumption) (by (first | omega | (simp; done) | (simp; omega))))))
  replace hc1 := BK1.cell; replace hf1 := BK1.frozen; replace hl1 := BK1.lt
  obtain ⟨DA, da, rfl⟩ := hp2.form
  obtain ⟨DB, db, rfl⟩ := hp2.formv
  go_wp2
  refine bodyPost_ret (v := .tuple #[.agg #[.int .i64 (advC c now).Now, .slice DA (advC c now).Timers.length da], .slice DB (advI c now).length db]) (by simp [results, Try.results10, go_sem, hc1, hf1]) rfl ⟨[.int .i64 (advC c now).Now, .slice DA (advC c now).Timers.length da], .slice DB (advI c now).length db, rfl, ?_, by (repeat (first | (with_reducible exact Below.refl _ _) | (with_reducible assumption) | ((with_reducible refine Below.setCell ?_ ?_ _); rotate_left; focus (first | omega | (simp; done) | (simp; omega))) | ((with_reducible refine Below.alloc ?_ ?_ _); rotate_left; focus (first | omega | (simp; done) | (simp; omega))) | (with_reducible refine Below.drew ?_) | (with_reducible refine below_drewN ?_ _) | (refine Below.trans ?_ (Below.mono (by with_reducible assumption) (by (first | omega | (simp; done) | (simp; omega)))))))⟩
  exact hp2.off (by (repeat (first | (with_reducible exact Out.refl _ _) | (with_reducible assumption) | ((with_reducible refine Out.setCell ?_ ?_ _); rotate_left; focus (first | (refine Or.inl ?_; (first | omega | (simp; done) | (simp; omega))) | (refine Or.inr ?_; (first | omega | (simp; done) | (simp; omega))))) | (with_reducible refine Out.alloc ?_ _) | (with_reducible refine Out.drew ?_) | (with_reducible refine Out.drewN ?_ _) | (refine Out.step ?_ (by with_reducible assumption))))) (by first | omega | (simp; done) | (simp; omega)) (by first | omega | (simp; done) | (simp; omega))
end Go.Proofs.Ythahnaigdoiddaa

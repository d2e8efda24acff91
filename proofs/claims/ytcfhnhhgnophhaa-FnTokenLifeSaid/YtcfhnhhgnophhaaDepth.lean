/- Depth, both sides. -/
import Derived.Test.YtcfhnhhgnophhaaPkPure
import Derived.Test.YtcfhnhhgnophhaaForestL
set_option linter.unusedSimpArgs false
set_option linter.unusedVariables false
set_option maxRecDepth 20000
namespace Go.Proofs.Ytcfhnhhgnophhaa
open Go.RowKit
theorem impl_tokenIndexL (cs : List Value) (f : Forest) (id : Int) (w : World) (h : ForestR.Rd w w.heap.size cs f) (hm : ForestR.sz f ≤ 1048576) :
    Calls Try.prog 39 #[.agg cs.toArray, .int .i64 id] w fun e w' => e = .returned (.int .i64 (idxT f.Tokens id)) ∧ Below w.heap.size w w' := by
  obtain ⟨v0, rfl, q0⟩ := rd_Forest h
  obtain ⟨A0, c0, rfl⟩ := q0.form
  rw [sz_Forest] at hm
  exact impl_tokenIndex A0 c0 f.Tokens id w q0 hm
theorem spec_l08AtL (cs : List Value) (f : Forest) (id : Int) (w : World) (h : ForestR.Rd w w.heap.size cs f) (hm : ForestR.sz f ≤ 1048576) :
    Calls Try.prog 30 #[.agg cs.toArray, .int .i64 id] w fun e w' => e = .returned (.int .i64 (idxT f.Tokens id)) ∧ Below w.heap.size w w' := by
  obtain ⟨v0, rfl, q0⟩ := rd_Forest h
  obtain ⟨A0, c0, rfl⟩ := q0.form
  rw [sz_Forest] at hm
  exact spec_l08At A0 c0 f.Tokens id w q0 hm
set_option maxHeartbeats 3200000 in
theorem impl_DepthL (cs : List Value) (f : Forest) (id : Int) (w : World) (h : ForestR.Rd w w.heap.size cs f) (hm : ForestR.sz f ≤ 1048576) :
    Calls Try.prog 16 #[.agg cs.toArray, .int .i64 id] w fun e w' => e = .returned (.int .i64 (depthF f.Tokens id)) ∧ Below w.heap.size w w' := by
  obtain ⟨v0, rfl, q0⟩ := rd_Forest (_root_.id h)
  obtain ⟨A0, c0, rfl⟩ := q0.form
  have HAt := Lib.hid (fun (i : Int) (w' : World) (h : ForestR.Rd w' w'.heap.size [.slice A0 f.Tokens.length c0] f) => impl_tokenIndexL _ f i w' h hm)
  have HOk := Lib.hid (fun (w' : World) (h : ForestR.Rd w' w'.heap.size [.slice A0 f.Tokens.length c0] f) => impl_isForestL _ f w' h hm)
  have HR := Lib.hid (fun (w' : World) (hb : Below w.heap.size w w') (hz : w.heap.size ≤ w'.heap.size) => ForestR.rd_keep h hb hz)
  have HRs := Lib.hid (fun (w' : World) (hb : Below w.heap.size w w') => q0.below hb (Nat.le_refl _))
  rw [sz_Forest] at hm
  have hml : f.Tokens.length ≤ 1048576 := Nat.le_trans (Nat.le_add_right _ _) hm
  clear h q0
  generalize hT : f.Tokens = ts at *
  generalize hn : ts.length = n at *
  have Hn := Lib.hid hn
  clear hn hm hT
  go_enter Try.func16, Try.ntmps16
  go_wp2_with fail
  refine (HAt.out _ _ (HR.out _ (by (repeat (first | (with_reducible exact Below.refl _ _) | (with_reducible assumption) | ((with_reducible refine Below.setCell ?_ ?_ _); rotate_left; focus (first | omega | (simp; done) | (simp; omega))) | ((with_reducible refine Below.alloc ?_ ?_ _); rotate_left; focus (first | omega | (simp; done) | (simp; omega))) | (with_reducible refine Below.drew ?_) | (with_reducible refine below_drewN ?_ _) | (refine Below.trans ?_ (Below.mono (by with_reducible assumption) (by (first | omega | (simp; done) | (simp; omega)))))))) (by first | omega | (simp; done) | (simp; omega)))).mono ?_
  rintro e w1 ⟨rfl, hb1⟩
  have hz1 := hb1.size; try simp at hz1
  have BK0 : Blk w1 w.heap.size 26 #[.slice A0 n c0] := by (repeat (first | (with_reducible assumption) | ((with_reducible refine Blk.new' ?_); focus (simp; done)) | (with_reducible refine Blk.alloc ?_ _) | (with_reducible refine Blk.drew ?_) | (with_reducible refine Blk.drewN ?_ _) | ((with_reducible refine Blk.far ?_ ?_ _); rotate_left; focus (first | omega | (simp; done) | (simp; omega))) | (refine Blk.keep ?_ (by with_reducible assumption)) | (refine Blk.below ?_ (by with_reducible assumption) (by (first | omega | (simp; done) | (simp; omega))))))
  have hc0 := BK0.cell
  go_wp2_with fail
  refine (HOk.out _ (HR.out _ (by (repeat (first | (with_reducible exact Below.refl _ _) | (with_reducible assumption) | ((with_reducible refine Below.setCell ?_ ?_ _); rotate_left; focus (first | omega | (simp; done) | (simp; omega))) | ((with_reducible refine Below.alloc ?_ ?_ _); rotate_left; focus (first | omega | (simp; done) | (simp; omega))) | (with_reducible refine Below.drew ?_) | (with_reducible refine below_drewN ?_ _) | (refine Below.trans ?_ (Below.mono (by with_reducible assumption) (by (first | omega | (simp; done) | (simp; omega)))))))) (by first | omega | (simp; done) | (simp; omega)))).mono ?_
  rintro e w2 ⟨rfl, hb2⟩
  have hz2 := hb2.size; try simp at hz2
  cases hok : forestOk ts
  · have HD := Lib.hid (depthF_bad (id := id) hok)
    clear hok
    go_wp2
    go_ret
    exact ⟨ret_int (by rw [HD.out]), by (repeat (first | (with_reducible exact Below.refl _ _) | (with_reducible assumption) | ((with_reducible refine Below.setCell ?_ ?_ _); rotate_left; focus (first | omega | (simp; done) | (simp; omega))) | ((with_reducible refine Below.alloc ?_ ?_ _); rotate_left; focus (first | omega | (simp; done) | (simp; omega))) | (with_reducible refine Below.drew ?_) | (with_reducible refine below_drewN ?_ _) | (refine Below.trans ?_ (Below.mono (by with_reducible assumption) (by (first | omega | (simp; done) | (simp; omega)))))))⟩
  have HOK := Lib.hid hok
  clear hok
  by_cases hx : idxT ts id < 0
  · have HD := Lib.hid (depthF_none hx)
    go_wp2
    go_ret
    exact ⟨ret_int (by rw [HD.out]), by (repeat (first | (with_reducible exact Below.refl _ _) | (with_reducible assumption) | ((with_reducible refine Below.setCell ?_ ?_ _); rotate_left; focus (first | omega | (simp; done) | (simp; omega))) | ((with_reducible refine Below.alloc ?_ ?_ _); rotate_left; focus (first | omega | (simp; done) | (simp; omega))) | (with_reducible refine Below.drew ?_) | (with_reducible refine below_drewN ?_ _) | (refine Below.trans ?_ (Below.mono (by with_reducible assumption) (by (first | omega | (simp; done) | (simp; omega)))))))⟩
  obtain ⟨i, t, e1, e2, e3⟩ := tok_at (Int.not_lt.1 hx)
  have HD := Lib.hid (depthF_at HOK.out e1 e2)
  have hi := idxT_small e1
  have hq := forest_tok HOK.out e2
  rw [e1] at hx ⊢
  have HG := Lib.hid e2
  rw [Hn.out] at hi
  clear e1 e2 e3
  have hd : decide ((i : Int) < 0) = false := by simp
  replace BK0 : Blk w2 w.heap.size 26 #[.slice A0 n c0] := by (repeat (first | (with_reducible assumption) | ((with_reducible refine Blk.new' ?_); focus (simp; done)) | (with_reducible refine Blk.alloc ?_ _) | (with_reducible refine Blk.drew ?_) | (with_reducible refine Blk.drewN ?_ _) | ((with_reducible refine Blk.far ?_ ?_ _); rotate_left; focus (first | omega | (simp; done) | (simp; omega))) | (refine Blk.keep ?_ (by with_reducible assumption)) | (refine Blk.below ?_ (by with_reducible assumption) (by (first | omega | (simp; done) | (simp; omega))))))
  have hbw : Below w.heap.size w w2 := by (repeat (first | (with_reducible exact Below.refl _ _) | (with_reducible assumption) | ((with_reducible refine Below.setCell ?_ ?_ _); rotate_left; focus (first | omega | (simp; done) | (simp; omega))) | ((with_reducible refine Below.alloc ?_ ?_ _); rotate_left; focus (first | omega | (simp; done) | (simp; omega))) | (with_reducible refine Below.drew ?_) | (with_reducible refine below_drewN ?_ _) | (refine Below.trans ?_ (Below.mono (by with_reducible assumption) (by (first | omega | (simp; done) | (simp; omega)))))))
  clear hc0 hb1 hb2 hz1 hz2
  go_wp2
  go_loopw [5, 6] (fun at_ dp wr => ∃ (i q : Nat) (t : Token), i < n ∧ at_ = .int .i64 i ∧ dp = .int .i64 q ∧ Hid (ts[i]? = some t) ∧ (q : Int) + t.Id ≤ 1000000000 ∧ Below w.heap.size w wr ∧ Blk wr w.heap.size 26 #[.slice A0 n c0] ∧ Hid (depthF ts id = ((q + depthW ts t.Parent : Nat) : Int))) (fun at_ _ _ => idAt ts (intOf at_).toNat)
  case atStart => exact ⟨i, 0, t, hi, rfl, rfl, HG, by omega, hbw, BK0, Lib.hid (by rw [HD.out, Nat.zero_add])⟩
  case round =>
    clear hq HG HD hbw BK0 hd
    obtain ⟨i, q, t, hi, rfl, rfl, HG, hqb, hb, hbk, hinv⟩ := hrel
    have hc0 := hbk.cell
    have hzr := hb.size
    obtain ⟨hf1, hf2, hf3, hf4, hf5⟩ := forest_tok HOK.out HG.out
    obtain ⟨b, off, An, cn, rfl, hab, hnm, hq0, hq1, hq2, hq3, hq4, hq5, hq6⟩ := tok_elem (HRs.out _ hb) HG.out
    clear hq0 hq2 hq3 hq4 hq5 hq6 hnm
    cases hp0 : t.Parent == 0
    · have hp1 : (t.Parent != 0) = true := by simp only [bne, hp0]; rfl
      have hpne : t.Parent ≠ 0 := by simpa using hp0
      obtain ⟨i2, t2, e1, e2, e3⟩ := tok_at (hf5 hpne)
      have hi2 := idxT_small e1
      rw [Hn.out] at hi2
      obtain ⟨hg1, hg2, -⟩ := forest_tok HOK.out e2
      have HS := Lib.hid (depthW_step HOK.out hpne e1 e2 e3)
      have HI := Lib.hid (show idAt ts i2 < idAt ts i by rw [idAt_eq e2, idAt_eq HG.out]; omega)
      have HC := Lib.hid (fun (n' : Lt wr) => e1 ▸ HAt.out t.Parent (later _ n') (HR.out _ (hb.trans ((later_below _ n').mono hzr)) (Nat.le_trans hzr (later_below _ n').size)))
      have HG2 := Lib.hid e2
      have hle2 : t2.Id = t.Parent := e3
      have hb3' : t2.Id < t.Id := by omega
      clear e1 e2 e3 hle2 hf5 hpne
      go_wp2
      have q0 := hbk.later
      have q1 := later_cell hq1
      refine wp_region_later (by kernel_rfl) (by kernel_rfl) ?_
      repeat (first | go_big_quiet_step ((go_at_call 39; exact Calls.later_of (HC.out _))) | quiet_step ((go_at_call 39; exact Calls.later_of (HC.out _))))
      refine wpQuiet_nil ?_
      intro w3 hb3
      go_wp2
      go_roundw
      case rel => exact ⟨i2, q + 1, t2, hi2, rfl, by go_num, HG2, by omega, by (repeat (first | (with_reducible exact Below.refl _ _) | (with_reducible assumption) | ((with_reducible refine Below.setCell ?_ ?_ _); rotate_left; focus (first | omega | (simp; done) | (simp; omega))) | ((with_reducible refine Below.alloc ?_ ?_ _); rotate_left; focus (first | omega | (simp; done) | (simp; omega))) | (with_reducible refine Below.drew ?_) | (with_reducible refine below_drewN ?_ _) | (refine Below.trans ?_ (Below.mono (by with_reducible assumption) (by (first | omega | (simp; done) | (simp; omega))))))), hbk.keep hb3, Lib.hid (by rw [hinv.out, HS.out]; omega)⟩
      case measure => exact HI.out
    · have hp1 : (t.Parent != 0) = false := by simp only [bne, hp0]; rfl
      have HZ : Hid (depthF ts id = (q : Int)) := Lib.hid (by rw [hinv.out, (by simpa using hp0 : t.Parent = 0), depthW_zero, Nat.add_zero])
      clear hinv
      go_wp2
      go_ret
      exact ⟨ret_int (by rw [HZ.out]), by (repeat (first | (with_reducible exact Below.refl _ _) | (with_reducible assumption) | ((with_reducible refine Below.setCell ?_ ?_ _); rotate_left; focus (first | omega | (simp; done) | (simp; omega))) | ((with_reducible refine Below.alloc ?_ ?_ _); rotate_left; focus (first | omega | (simp; done) | (simp; omega))) | (with_reducible refine Below.drew ?_) | (with_reducible refine below_drewN ?_ _) | (refine Below.trans ?_ (Below.mono (by with_reducible assumption) (by (first | omega | (simp; done) | (simp; omega)))))))⟩
end Go.Proofs.Ytcfhnhhgnophhaa

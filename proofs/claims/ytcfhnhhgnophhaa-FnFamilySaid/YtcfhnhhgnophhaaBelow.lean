/- Below, both sides. -/
import Derived.Test.YtcfhnhhgnophhaaPkPure
import Derived.Test.YtcfhnhhgnophhaaWithout
import Derived.Test.YtcfhnhhgnophhaaLess
set_option linter.unusedSimpArgs false
set_option linter.unusedVariables false
set_option maxRecDepth 20000
namespace Go.Proofs.Ytcfhnhhgnophhaa
open Go.RowKit
set_option maxHeartbeats 3200000 in
theorem spec_l08Under (A0 : Option Addr) (c0 : Nat) (ts : List Token) (p0 top : Int) (w : World) (hr : SlRd TokenR w w.heap.size (.slice A0 ts.length c0) ts) (hm : szList TokenR ts ≤ 1048576) (hf : forestOk ts = true) (hp0 : 0 ≤ p0) (hpx0 : p0 ≠ 0 → 0 ≤ idxT ts p0) :
    Calls Try.prog 38 #[.agg #[.slice A0 ts.length c0], .int .i64 p0, .int .i64 top] w fun e w' => e = .returned (.bool (underW ts top p0)) ∧ Below w.heap.size w w' := by
  have HAt := Lib.hid (fun (i : Int) (w' : World) (h : SlRd TokenR w' w'.heap.size (.slice A0 ts.length c0) ts) => spec_l08At A0 c0 ts i w' h hm)
  have HRs := Lib.hid (fun (w' : World) (hb : Below w.heap.size w w') (hz : w.heap.size ≤ w'.heap.size) => hr.keep hb hz)
  have HRb := Lib.hid (fun (w' : World) (hb : Below w.heap.size w w') => hr.below hb (Nat.le_refl _))
  have hml : ts.length ≤ 1048576 := Nat.le_trans (Nat.le_add_right _ _) hm
  have HOK := Lib.hid hf
  have HX0 := Lib.hid hpx0
  generalize hn : ts.length = n at *
  have Hn := Lib.hid hn
  clear hn hm hr hf hpx0
  go_enter Try.func38, Try.ntmps38
  go_wp2
  go_loopw [1] (fun pp wr => ∃ (p : Int), pp = .int .i64 p ∧ 0 ≤ p ∧ Hid (p ≠ 0 → 0 ≤ idxT ts p) ∧ Below w.heap.size w wr ∧ Blk wr w.heap.size 26 #[.slice A0 n c0] ∧ Hid (underW ts top p0 = underW ts top p)) (fun pp _ => (intOf pp).toNat)
  case atStart => exact ⟨p0, rfl, hp0, HX0, by (repeat (first | (with_reducible exact Below.refl _ _) | (with_reducible assumption) | ((with_reducible refine Below.setCell ?_ ?_ _); rotate_left; focus (first | omega | (simp; done) | (simp; omega))) | ((with_reducible refine Below.alloc ?_ ?_ _); rotate_left; focus (first | omega | (simp; done) | (simp; omega))) | (with_reducible refine Below.drew ?_) | (with_reducible refine below_drewN ?_ _) | (refine Below.trans ?_ (Below.mono (by with_reducible assumption) (by (first | omega | (simp; done) | (simp; omega))))))), by (repeat (first | (with_reducible assumption) | ((with_reducible refine Blk.new' ?_); focus (simp; done)) | (with_reducible refine Blk.alloc ?_ _) | (with_reducible refine Blk.drew ?_) | (with_reducible refine Blk.drewN ?_ _) | ((with_reducible refine Blk.far ?_ ?_ _); rotate_left; focus (first | omega | (simp; done) | (simp; omega))) | (refine Blk.keep ?_ (by with_reducible assumption)) | (refine Blk.below ?_ (by with_reducible assumption) (by (first | omega | (simp; done) | (simp; omega)))))), rfl⟩
  case round =>
    clear HX0 hp0
    obtain ⟨p, rfl, hp, hpx, hb, hbk, hinv⟩ := hrel
    have hc0 := hbk.cell
    have hzr := hb.size
    cases hp0 : p == 0
    · have hp1 : (p != 0) = true := by simp only [bne, hp0]; rfl
      have hpne : p ≠ 0 := by simpa using hp0
      cases ht0 : p == top
      · have htne : p ≠ top := by simpa using ht0
        obtain ⟨i2, t2, e1, e2, e3⟩ := tok_at (hpx.out hpne)
        have hi2 := idxT_small e1
        rw [Hn.out] at hi2
        obtain ⟨hg1, hg2, hg3, hg4, hg5⟩ := forest_tok HOK.out e2
        have HG5 := Lib.hid hg5
        clear hg5
        have HS := Lib.hid (underW_step (top := top) HOK.out hpne htne e1 e2 e3)
        have HC := Lib.hid (fun (n' : Lt wr) => e1 ▸ HAt.out p (later _ n') (HRs.out _ (hb.trans ((later_below _ n').mono hzr)) (Nat.le_trans hzr (later_below _ n').size)))
        obtain ⟨b, off, An, cn, rfl, hab, hnm, hq0, hq1, hq2, hq3, hq4, hq5, hq6⟩ := tok_elem (HRb.out _ hb) e2
        have hle : t2.Parent < p := by omega
        have hpp : 0 < p := by omega
        clear e1 e2 e3 hpne hpx hnm hq0 hq2 hq3 hq4 hq5 hq6 htne
        go_wp2
        have q0 := hbk.later
        have q1 := later_cell hq1
        refine wp_region_later (by kernel_rfl) (by kernel_rfl) ?_
        repeat (first | go_big_quiet_step ((go_at_call 30; exact Calls.later_of (HC.out _))) | quiet_step ((go_at_call 30; exact Calls.later_of (HC.out _))))
        refine wpQuiet_nil ?_
        intro w3 hb3
        go_wp2
        go_roundw
        case rel => exact ⟨t2.Parent, rfl, hg3, HG5, by (repeat (first | (with_reducible exact Below.refl _ _) | (with_reducible assumption) | ((with_reducible refine Below.setCell ?_ ?_ _); rotate_left; focus (first | omega | (simp; done) | (simp; omega))) | ((with_reducible refine Below.alloc ?_ ?_ _); rotate_left; focus (first | omega | (simp; done) | (simp; omega))) | (with_reducible refine Below.drew ?_) | (with_reducible refine below_drewN ?_ _) | (refine Below.trans ?_ (Below.mono (by with_reducible assumption) (by (first | omega | (simp; done) | (simp; omega))))))), hbk.keep hb3, Lib.hid (by rw [hinv.out, HS.out])⟩
        case measure => simp [intOf]; omega
      · have HY : Hid (underW ts top p0 = true) := Lib.hid (by rw [hinv.out, (by simpa using ht0 : p = top), underW_top (by rw [← (by simpa using ht0 : p = top)]; exact hpne)])
        clear hinv hpne hpx
        go_wp2
        go_ret
        exact ⟨ret_bool (by rw [HY.out]), hb⟩
    · have hp1 : (p != 0) = false := by simp only [bne, hp0]; rfl
      have HZ : Hid (underW ts top p0 = false) := Lib.hid (by rw [hinv.out, (by simpa using hp0 : p = 0), underW_zero])
      clear hinv hpx
      go_wp2
      go_ret
      exact ⟨ret_bool (by rw [HZ.out]), by (repeat (first | (with_reducible exact Below.refl _ _) | (with_reducible assumption) | ((with_reducible refine Below.setCell ?_ ?_ _); rotate_left; focus (first | omega | (simp; done) | (simp; omega))) | ((with_reducible refine Below.alloc ?_ ?_ _); rotate_left; focus (first | omega | (simp; done) | (simp; omega))) | (with_reducible refine Below.drew ?_) | (with_reducible refine below_drewN ?_ _) | (refine Below.trans ?_ (Below.mono (by with_reducible assumption) (by (first | omega | (simp; done) | (simp; omega)))))))⟩
set_option maxHeartbeats 3200000 in
theorem spec_BelowL (cs : List Value) (f : Forest) (id : Int) (w : World) (h : ForestR.Rd w w.heap.size cs f) (hm : ForestR.sz f ≤ 1048576) :
    Calls Try.prog 13 #[.agg cs.toArray, .int .i64 id] w fun e w' => ∃ v, e = .returned v ∧ SlOwn intR 3 w' (InR w.heap.size w'.heap.size) v (belowF f.Tokens id) ∧ Below w.heap.size w w' := by
  obtain ⟨v0, rfl, q0⟩ := rd_Forest (_root_.id h)
  obtain ⟨A0, c0, rfl⟩ := q0.form
  obtain ⟨j0, hj0, hJ0, hJ1, hJ2⟩ := info_parts info_int
  have HAt := Lib.hid (fun (i : Int) (w' : World) (h : ForestR.Rd w' w'.heap.size [.slice A0 f.Tokens.length c0] f) => spec_l08AtL _ f i w' h hm)
  have HOk := Lib.hid (fun (w' : World) (h : ForestR.Rd w' w'.heap.size [.slice A0 f.Tokens.length c0] f) => spec_ForestOkL _ f w' h hm)
  have HR := Lib.hid (fun (w' : World) (hb : Below w.heap.size w w') (hz : w.heap.size ≤ w'.heap.size) => ForestR.rd_keep h hb hz)
  have HRs := Lib.hid (fun (w' : World) (hb : Below w.heap.size w w') (hz : w.heap.size ≤ w'.heap.size) => q0.keep hb hz)
  have HRb := Lib.hid (fun (w' : World) (hb : Below w.heap.size w w') => q0.below hb (Nat.le_refl _))
  rw [sz_Forest] at hm
  have hml : f.Tokens.length ≤ 1048576 := Nat.le_trans (Nat.le_add_right _ _) hm
  have HUn := Lib.hid (fun (p0 top : Int) (w' : World) (h : SlRd TokenR w' w'.heap.size (.slice A0 f.Tokens.length c0) f.Tokens) (a : forestOk f.Tokens = true) (b : 0 ≤ p0) (d : p0 ≠ 0 → 0 ≤ idxT f.Tokens p0) => spec_l08Under A0 c0 f.Tokens p0 top w' h hm a b d)
  clear h q0
  generalize hT : f.Tokens = ts at *
  generalize hn : ts.length = n at *
  have Hn := Lib.hid hn
  clear hn hm hT
  go_enter Try.func13, Try.ntmps13
  go_wp2_with fail
  refine (HOk.out _ (HR.out _ (by (repeat (first | (with_reducible exact Below.refl _ _) | (with_reducible assumption) | ((with_reducible refine Below.setCell ?_ ?_ _); rotate_left; focus (first | omega | (simp; done) | (simp; omega))) | ((with_reducible refine Below.alloc ?_ ?_ _); rotate_left; focus (first | omega | (simp; done) | (simp; omega))) | (with_reducible refine Below.drew ?_) | (with_reducible refine below_drewN ?_ _) | (refine Below.trans ?_ (Below.mono (by with_reducible assumption) (by (first | omega | (simp; done) | (simp; omega)))))))) (by first | omega | (simp; done) | (simp; omega)))).mono ?_
  rintro e w1 ⟨rfl, hb1⟩
  have hz1 := hb1.size; try simp at hz1
  have BK0 : Blk w1 w.heap.size 26 #[.slice A0 n c0] := by (repeat (first | (with_reducible assumption) | ((with_reducible refine Blk.new' ?_); focus (simp; done)) | (with_reducible refine Blk.alloc ?_ _) | (with_reducible refine Blk.drew ?_) | (with_reducible refine Blk.drewN ?_ _) | ((with_reducible refine Blk.far ?_ ?_ _); rotate_left; focus (first | omega | (simp; done) | (simp; omega))) | (refine Blk.keep ?_ (by with_reducible assumption)) | (refine Blk.below ?_ (by with_reducible assumption) (by (first | omega | (simp; done) | (simp; omega))))))
  have hc0 := BK0.cell
  have hlit : World.ownsRow _ _ 3 1 _ _ _ := World.ownsRow_lit (size := 1) (w.alloc (.cells #[.slice A0 n c0] 26)) #[] 0 (Nat.le_refl _) (by simp [maxLen]) rfl
  replace hlit := own_below hlit hb1
  cases hok : forestOk ts
  · have HD := Lib.hid (belowF_no (findOk_bad (id := id) hok))
    clear hok
    go_wp2
    go_ret
    exact ⟨_, rfl, by rw [HD.out]; exact SlOwn.nil _ _ _ _, by (repeat (first | (with_reducible exact Below.refl _ _) | (with_reducible assumption) | ((with_reducible refine Below.setCell ?_ ?_ _); rotate_left; focus (first | omega | (simp; done) | (simp; omega))) | ((with_reducible refine Below.alloc ?_ ?_ _); rotate_left; focus (first | omega | (simp; done) | (simp; omega))) | (with_reducible refine Below.drew ?_) | (with_reducible refine below_drewN ?_ _) | (refine Below.trans ?_ (Below.mono (by with_reducible assumption) (by (first | omega | (simp; done) | (simp; omega)))))))⟩
  have HOK := Lib.hid hok
  clear hok
  go_wp2_with fail
  refine (HAt.out _ _ (HR.out _ (by (repeat (first | (with_reducible exact Below.refl _ _) | (with_reducible assumption) | ((with_reducible refine Below.setCell ?_ ?_ _); rotate_left; focus (first | omega | (simp; done) | (simp; omega))) | ((with_reducible refine Below.alloc ?_ ?_ _); rotate_left; focus (first | omega | (simp; done) | (simp; omega))) | (with_reducible refine Below.drew ?_) | (with_reducible refine below_drewN ?_ _) | (refine Below.trans ?_ (Below.mono (by with_reducible assumption) (by (first | omega | (simp; done) | (simp; omega)))))))) (by first | omega | (simp; done) | (simp; omega)))).mono ?_
  rintro e w2 ⟨rfl, hb2⟩
  have hz2 := hb2.size; try simp at hz2
  by_cases hx : idxT ts id < 0
  · have HD := Lib.hid (belowF_no (findOk_none hx))
    go_wp2
    go_ret
    exact ⟨_, rfl, by rw [HD.out]; exact SlOwn.nil _ _ _ _, by (repeat (first | (with_reducible exact Below.refl _ _) | (with_reducible assumption) | ((with_reducible refine Below.setCell ?_ ?_ _); rotate_left; focus (first | omega | (simp; done) | (simp; omega))) | ((with_reducible refine Below.alloc ?_ ?_ _); rotate_left; focus (first | omega | (simp; done) | (simp; omega))) | (with_reducible refine Below.drew ?_) | (with_reducible refine below_drewN ?_ _) | (refine Below.trans ?_ (Below.mono (by with_reducible assumption) (by (first | omega | (simp; done) | (simp; omega)))))))⟩
  have HD : Hid (belowF ts id = belowS ts id) := Lib.hid (by
    obtain ⟨i, t, e1, e2, e3⟩ := tok_at (Int.not_lt.1 hx)
    exact belowF_yes (findOk_at HOK.out e1))
  have hxd : decide (idxT ts id < 0) = false := by simpa using hx
  replace hlit := own_below hlit hb2
  replace BK0 : Blk w2 w.heap.size 26 #[.slice A0 n c0] := by (repeat (first | (with_reducible assumption) | ((with_reducible refine Blk.new' ?_); focus (simp; done)) | (with_reducible refine Blk.alloc ?_ _) | (with_reducible refine Blk.drew ?_) | (with_reducible refine Blk.drewN ?_ _) | ((with_reducible refine Blk.far ?_ ?_ _); rotate_left; focus (first | omega | (simp; done) | (simp; omega))) | (refine Blk.keep ?_ (by with_reducible assumption)) | (refine Blk.below ?_ (by with_reducible assumption) (by (first | omega | (simp; done) | (simp; omega))))))
  have hbw : Below w.heap.size w w2 := by (repeat (first | (with_reducible exact Below.refl _ _) | (with_reducible assumption) | ((with_reducible refine Below.setCell ?_ ?_ _); rotate_left; focus (first | omega | (simp; done) | (simp; omega))) | ((with_reducible refine Below.alloc ?_ ?_ _); rotate_left; focus (first | omega | (simp; done) | (simp; omega))) | (with_reducible refine Below.drew ?_) | (with_reducible refine below_drewN ?_ _) | (refine Below.trans ?_ (Below.mono (by with_reducible assumption) (by (first | omega | (simp; done) | (simp; omega)))))))
  clear hc0 hb1 hb2
  go_wp2
  go_loopw [5, 6] (fun sl i wr => ∃ (k : Nat) (B : Option Addr) (d : Nat) (ys : List Int), k ≤ n ∧ i = .int .i64 k ∧ sl = .slice B ys.length d ∧ ys.length ≤ k ∧ Below w.heap.size w wr ∧ w.heap.size + 1 ≤ wr.heap.size ∧ Blk wr w.heap.size 26 #[.slice A0 n c0] ∧ Hid (wr.ownsRow (w.heap.size + 1) 3 1 (.slice B ys.length d) ys.length (ys.map intV)) ∧ Hid (ys = belowK ts id k)) (fun _ i _ => n - (intOf i).toNat)
  case atStart => exact ⟨0, _, 0, [], Nat.zero_le _, rfl, rfl, Nat.zero_le _, hbw, by omega, BK0, Lib.hid (by simpa using own_base hlit (by simp)), Lib.hid rfl⟩
  case round =>
    clear hbw BK0 hlit hx hxd hz1 hz2
    obtain ⟨k, B, d, ys, hk, rfl, rfl, hys, hb, hzr, BK0, HI, HL⟩ := hrel
    have hc0 := BK0.cell
    by_cases hlt : k < n
    · have hlx : k < ts.length := by rw [Hn.out]; exact hlt
      have HT := Lib.hid (List.getElem?_eq_getElem hlx)
      generalize ts[k]'hlx = t at HT
      clear hlx
      obtain ⟨b, off, An, cn, rfl, hab, hnm, hq0, hq1, hq2, hq3, hq4, hq5, hq6⟩ := tok_elem (HRb.out _ hb) HT.out
      clear hnm hq1 hq2 hq3 hq4 hq5 hq6
      have hq0w := hq0
      obtain ⟨hg1, hg2, hg3, hg4, -⟩ := forest_tok HOK.out HT.out
      cases hu : underW ts id t.Id
      all_goals
        have HU := Lib.hid hu
        have HC := Lib.hid (fun (n' : Lt wr) => (hu ▸ HUn.out t.Id id (later _ n') (HRs.out _ (hb.trans ((later_below _ n').mono (by omega))) (Nat.le_trans hb.size (later_below _ n').size)) HOK.out (by omega) (fun _ => idxT_mem HT.out) : Calls Try.prog 38 #[.agg #[.slice (some ⟨b, off, none⟩) n c0], .int .i64 t.Id, .int .i64 id] (later _ n') fun e w' => e = .returned (.bool _) ∧ Below (later _ n').heap.size (later _ n') w'))
        clear hu
        go_wp2
        have q0 := BK0.later
        have q1 := later_cell hq0
        refine wp_region_later (by kernel_rfl) (by kernel_rfl) ?_
        repeat (first | go_big_quiet_step ((go_at_call 38; exact Calls.later_of (HC.out _))) | quiet_step ((go_at_call 38; exact Calls.later_of (HC.out _))))
        refine wpQuiet_nil ?_
        intro w3 hb3
        clear q0 q1 HC
        replace BK0 := BK0.keep hb3
        replace hc0 := BK0.cell
        have hq0' : w3.cell? ⟨b, off + k * 7, none⟩ = some (.int .i64 t.Id) := (hb3.cell (p := ⟨b, off + k * 7, none⟩) (by show b < _; omega)).trans hq0
        have hz3 := hb3.size
      · go_wp2
        go_roundw
        case rel => exact ⟨k + 1, B, d, ys, by omega, by go_num, rfl, by omega, hb.trans (hb3.mono (by omega)), by omega, BK0, Lib.hid (own_below HI.out hb3), Lib.hid (by rw [belowK_no HT.out HU.out, HL.out])⟩
        case measure => simp [intOf]; omega
      · have hir := own_below HI.out hb3
        have hirlt : ∀ q, (Value.slice B ys.length d).ownBlock = some q → w.heap.size + 1 ≤ q ∧ q < w3.heap.size := fun q e => hir.lt q e
        go_wp2_with (first | (at_builtin; go_loud (refine wpList_append_own_at _ rfl _ _ 30 rfl (w.heap.size + 1) 3 j0 (.int .i64 0) 1 8 Try.underlying30 hj0 hJ0 hJ1 hJ2 rfl (by decide) _ _ _ rfl (hir.alloc _) ⟨w3.heap.size, 0, none⟩ 1 1 [.int .i64 t.Id] rfl rfl ?c1 ?c2 ?c3 ?c4 ?c5 ?_; (case c1 => exact cell_one_new _ _ _); (case c2 => simp [Value.oneCell']); (case c3 => (simp only [maxLen]; omega)); (case c4 => omega); (case c5 => (simp; omega)); intro v' wA hown1 hgrow hnil hat; obtain ⟨gg, cap, rfl, hg1, hg2⟩ := hown1.form (by omega))))
        go_roundw
        case rel =>
          have hzA := hgrow.size
          simp at hzA
          have hbA : Below w.heap.size w (w3.alloc (.cells #[.int .i64 t.Id] 3)) := Below.alloc (hb.trans (hb3.mono (by omega))) (by omega) _
          refine ⟨k + 1, some ⟨gg, 0, none⟩, cap, ys ++ [t.Id], by omega, by go_num, by rw [List.length_append]; rfl, by simp; omega, ?_, by omega, ?_, Lib.hid (by rw [List.length_append, List.map_append]; exact hown1), Lib.hid (by rw [belowK_yes HT.out HU.out, HL.out])⟩
          · exact Below.grown hbA hgrow (by simp; omega) (fun q e => by have := hirlt q e; omega)
          · exact (BK0.alloc _).grown hgrow (fun e => by have := hirlt _ e.symm; omega)
        case measure => simp [intOf]; omega
    · obtain rfl : k = n := by omega
      have HL2 : Hid (ys = belowF ts id) := Lib.hid (by rw [HD.out, HL.out, belowK_all (by rw [Hn.out]; exact Nat.le_refl _)])
      go_wp2
      go_ret
      exact ⟨_, rfl, by rw [← HL2.out]; exact of_own_in_IntS (own_base HI.out (by omega)), hb⟩
theorem impl_Below_1 (t : Token) (A : Option Addr) (c : Nat) (id : Int) (p : Addr) (w : World) (hc : w.cell? p = some (.int .i64 id)) : Calls Try.prog 40 #[.agg #[.int .i64 t.Id, .int .i64 t.Parent, .slice A t.Names.length c, .int .i64 t.Made, .int .i64 t.Ends, .int .i64 t.Limit, .int .i64 t.Uses], .pointer (some p)] w fun e w' => e = .returned (.bool (hasTok id t)) ∧ Below w.heap.size w w' := by
  have hlt := World.block_lt_of_cell? w p hc
  have hc' : (w.alloc (.cells #[.int .i64 t.Id, .int .i64 t.Parent, .slice A t.Names.length c, .int .i64 t.Made, .int .i64 t.Ends, .int .i64 t.Limit, .int .i64 t.Uses] 35)).cell? p = some (.int .i64 id) := by rw [World.cell?_alloc_lt _ _ _ hlt]; exact hc
  go_enter Try.func40, Try.ntmps40
  go_wp2
  go_ret
  exact ⟨rfl, by (repeat (first | (with_reducible exact Below.refl _ _) | (with_reducible assumption) | ((with_reducible refine Below.setCell ?_ ?_ _); rotate_left; focus (first | omega | (simp; done) | (simp; omega))) | ((with_reducible refine Below.alloc ?_ ?_ _); rotate_left; focus (first | omega | (simp; done) | (simp; omega))) | (with_reducible refine Below.drew ?_) | (with_reducible refine below_drewN ?_ _) | (refine Below.trans ?_ (Below.mono (by with_reducible assumption) (by (first | omega | (simp; done) | (simp; omega)))))))⟩
set_option maxHeartbeats 3200000 in
theorem impl_BelowL (cs : List Value) (f : Forest) (id : Int) (w : World) (h : ForestR.Rd w w.heap.size cs f) (hm : ForestR.sz f ≤ 1048576) :
    Calls Try.prog 14 #[.agg cs.toArray, .int .i64 id] w fun e w' => ∃ v, e = .returned v ∧ SlOwn intR 3 w' (InR w.heap.size w'.heap.size) v (belowF f.Tokens id) ∧ Below w.heap.size w w' := by
  obtain ⟨v0, rfl, q0⟩ := rd_Forest (_root_.id h)
  obtain ⟨A0, c0, rfl⟩ := q0.form
  have HAt := Lib.hid (fun (i : Int) (w' : World) (h : ForestR.Rd w' w'.heap.size [.slice A0 f.Tokens.length c0] f) => impl_tokenIndexL _ f i w' h hm)
  have HOk := Lib.hid (fun (w' : World) (h : ForestR.Rd w' w'.heap.size [.slice A0 f.Tokens.length c0] f) => impl_isForestL _ f w' h hm)
  have HR := Lib.hid (fun (w' : World) (hb : Below w.heap.size w w') (hz : w.heap.size ≤ w'.heap.size) => ForestR.rd_keep h hb hz)
  have HRs := Lib.hid (fun (w' : World) (hb : Below w.heap.size w w') (hz : w.heap.size ≤ w'.heap.size) => q0.keep hb hz)
  rw [sz_Forest] at hm
  have HWo := Lib.hid (fun (p : Addr) (w' : World) (h : SlRd TokenR w' w'.heap.size (.slice A0 f.Tokens.length c0) f.Tokens) (hc : w'.cell? p = some (.int .i64 id)) => impl_without_Below p (hasTok id) A0 c0 f.Tokens w' h hm (fun t A c w2 hb => impl_Below_1 t A c id p w2 ((hb.cell (World.block_lt_of_cell? w' p hc)).trans hc)))
  clear h q0 hm
  generalize hT : f.Tokens = ts at *
  generalize hn : ts.length = n at *
  clear hn hT
  have BKX : Blk ((w.alloc (.cells #[.slice A0 n c0] 26)).alloc (.cells #[.int .i64 id] 3)) w.heap.size 26 #[.slice A0 n c0] := by (repeat (first | (with_reducible assumption) | ((with_reducible refine Blk.new' ?_); focus (simp; done)) | (with_reducible refine Blk.alloc ?_ _) | (with_reducible refine Blk.drew ?_) | (with_reducible refine Blk.drewN ?_ _) | ((with_reducible refine Blk.far ?_ ?_ _); rotate_left; focus (first | omega | (simp; done) | (simp; omega))) | (refine Blk.keep ?_ (by with_reducible assumption)) | (refine Blk.below ?_ (by with_reducible assumption) (by (first | omega | (simp; done) | (simp; omega))))))
  go_enter Try.func14, Try.ntmps14
  go_wp2_with fail
  refine (HOk.out _ (HR.out _ (by (repeat (first | (with_reducible exact Below.refl _ _) | (with_reducible assumption) | ((with_reducible refine Below.setCell ?_ ?_ _); rotate_left; focus (first | omega | (simp; done) | (simp; omega))) | ((with_reducible refine Below.alloc ?_ ?_ _); rotate_left; focus (first | omega | (simp; done) | (simp; omega))) | (with_reducible refine Below.drew ?_) | (with_reducible refine below_drewN ?_ _) | (refine Below.trans ?_ (Below.mono (by with_reducible assumption) (by (first | omega | (simp; done) | (simp; omega)))))))) (by first | omega | (simp; done) | (simp; omega)))).mono ?_
  rintro e w1 ⟨rfl, hb1⟩
  have hz1 := hb1.size; try simp at hz1
  have BK0 : Blk w1 w.heap.size 26 #[.slice A0 n c0] := by (repeat (first | (with_reducible assumption) | ((with_reducible refine Blk.new' ?_); focus (simp; done)) | (with_reducible refine Blk.alloc ?_ _) | (with_reducible refine Blk.drew ?_) | (with_reducible refine Blk.drewN ?_ _) | ((with_reducible refine Blk.far ?_ ?_ _); rotate_left; focus (first | omega | (simp; done) | (simp; omega))) | (refine Blk.keep ?_ (by with_reducible assumption)) | (refine Blk.below ?_ (by with_reducible assumption) (by (first | omega | (simp; done) | (simp; omega))))))
  have BK1 : Blk w1 (w.heap.size + 1) 3 #[.int .i64 id] := by (repeat (first | (with_reducible assumption) | ((with_reducible refine Blk.new' ?_); focus (simp; done)) | (with_reducible refine Blk.alloc ?_ _) | (with_reducible refine Blk.drew ?_) | (with_reducible refine Blk.drewN ?_ _) | ((with_reducible refine Blk.far ?_ ?_ _); rotate_left; focus (first | omega | (simp; done) | (simp; omega))) | (refine Blk.keep ?_ (by with_reducible assumption)) | (refine Blk.below ?_ (by with_reducible assumption) (by (first | omega | (simp; done) | (simp; omega))))))
  have hc0 := BK0.cell; have hc1 := BK1.cell
  cases hok : forestOk ts
  · have HD := Lib.hid (belowF_no (findOk_bad (id := id) hok))
    clear hok
    go_wp2
    go_ret
    exact ⟨_, rfl, by rw [HD.out]; exact SlOwn.nil _ _ _ _, by (repeat (first | (with_reducible exact Below.refl _ _) | (with_reducible assumption) | ((with_reducible refine Below.setCell ?_ ?_ _); rotate_left; focus (first | omega | (simp; done) | (simp; omega))) | ((with_reducible refine Below.alloc ?_ ?_ _); rotate_left; focus (first | omega | (simp; done) | (simp; omega))) | (with_reducible refine Below.drew ?_) | (with_reducible refine below_drewN ?_ _) | (refine Below.trans ?_ (Below.mono (by with_reducible assumption) (by (first | omega | (simp; done) | (simp; omega)))))))⟩
  have HOK := Lib.hid hok
  clear hok
  go_wp2_with fail
  refine (HAt.out _ _ (HR.out _ (by (repeat (first | (with_reducible exact Below.refl _ _) | (with_reducible assumption) | ((with_reducible refine Below.setCell ?_ ?_ _); rotate_left; focus (first | omega | (simp; done) | (simp; omega))) | ((with_reducible refine Below.alloc ?_ ?_ _); rotate_left; focus (first | omega | (simp; done) | (simp; omega))) | (with_reducible refine Below.drew ?_) | (with_reducible refine below_drewN ?_ _) | (refine Below.trans ?_ (Below.mono (by with_reducible assumption) (by (first | omega | (simp; done) | (simp; omega)))))))) (by first | omega | (simp; done) | (simp; omega)))).mono ?_
  rintro e w2 ⟨rfl, hb2⟩
  have hz2 := hb2.size; try simp at hz2
  by_cases hx : idxT ts id < 0
  · have HD := Lib.hid (belowF_no (findOk_none hx))
    go_wp2
    go_ret
    exact ⟨_, rfl, by rw [HD.out]; exact SlOwn.nil _ _ _ _, by (repeat (first | (with_reducible exact Below.refl _ _) | (with_reducible assumption) | ((with_reducible refine Below.setCell ?_ ?_ _); rotate_left; focus (first | omega | (simp; done) | (simp; omega))) | ((with_reducible refine Below.alloc ?_ ?_ _); rotate_left; focus (first | omega | (simp; done) | (simp; omega))) | (with_reducible refine Below.drew ?_) | (with_reducible refine below_drewN ?_ _) | (refine Below.trans ?_ (Below.mono (by with_reducible assumption) (by (first | omega | (simp; done) | (simp; omega)))))))⟩
  have HD : Hid ((wFold (hasTok id) ts).2 = belowF ts id) := Lib.hid (by
    obtain ⟨i, t, e1, e2, e3⟩ := tok_at (Int.not_lt.1 hx)
    rw [belowF_yes (findOk_at HOK.out e1), below_same HOK.out])
  have hxd : decide (idxT ts id < 0) = false := by simpa using hx
  replace BK0 : Blk w2 w.heap.size 26 #[.slice A0 n c0] := by (repeat (first | (with_reducible assumption) | ((with_reducible refine Blk.new' ?_); focus (simp; done)) | (with_reducible refine Blk.alloc ?_ _) | (with_reducible refine Blk.drew ?_) | (with_reducible refine Blk.drewN ?_ _) | ((with_reducible refine Blk.far ?_ ?_ _); rotate_left; focus (first | omega | (simp; done) | (simp; omega))) | (refine Blk.keep ?_ (by with_reducible assumption)) | (refine Blk.below ?_ (by with_reducible assumption) (by (first | omega | (simp; done) | (simp; omega))))))
  replace BK1 : Blk w2 (w.heap.size + 1) 3 #[.int .i64 id] := by (repeat (first | (with_reducible assumption) | ((with_reducible refine Blk.new' ?_); focus (simp; done)) | (with_reducible refine Blk.alloc ?_ _) | (with_reducible refine Blk.drew ?_) | (with_reducible refine Blk.drewN ?_ _) | ((with_reducible refine Blk.far ?_ ?_ _); rotate_left; focus (first | omega | (simp; done) | (simp; omega))) | (refine Blk.keep ?_ (by with_reducible assumption)) | (refine Blk.below ?_ (by with_reducible assumption) (by (first | omega | (simp; done) | (simp; omega))))))
  replace hc0 := BK0.cell; replace hc1 := BK1.cell
  go_wp2_with fail
  refine (HWo.out _ _ (HRs.out _ (by (repeat (first | (with_reducible exact Below.refl _ _) | (with_reducible assumption) | ((with_reducible refine Below.setCell ?_ ?_ _); rotate_left; focus (first | omega | (simp; done) | (simp; omega))) | ((with_reducible refine Below.alloc ?_ ?_ _); rotate_left; focus (first | omega | (simp; done) | (simp; omega))) | (with_reducible refine Below.drew ?_) | (with_reducible refine below_drewN ?_ _) | (refine Below.trans ?_ (Below.mono (by with_reducible assumption) (by (first | omega | (simp; done) | (simp; omega)))))))) (by first | omega | (simp; done) | (simp; omega))) (hc1 0)).mono ?_
  rintro e w3 ⟨A1, c1, css, B1, d1, rfl, hT2, hb3⟩
  have hz3 := hb3.size; try simp at hz3
  have HT2 := Lib.hid hT2
  clear hT2
  go_wp2
  go_ret
  refine ⟨_, rfl, ?_, by (repeat (first | (with_reducible exact Below.refl _ _) | (with_reducible assumption) | ((with_reducible refine Below.setCell ?_ ?_ _); rotate_left; focus (first | omega | (simp; done) | (simp; omega))) | ((with_reducible refine Below.alloc ?_ ?_ _); rotate_left; focus (first | omega | (simp; done) | (simp; omega))) | (with_reducible refine Below.drew ?_) | (with_reducible refine below_drewN ?_ _) | (refine Below.trans ?_ (Below.mono (by with_reducible assumption) (by (first | omega | (simp; done) | (simp; omega)))))))⟩
  rw [← HD.out]
  have hS := of_own_in_IntS HT2.out.irow
  exact SlOwn.wide (SlOwn.off hS (by (repeat (first | (with_reducible exact Out.refl _ _) | (with_reducible assumption) | ((with_reducible refine Out.setCell ?_ ?_ _); rotate_left; focus (first | (refine Or.inl ?_; (first | omega | (simp; done) | (simp; omega))) | (refine Or.inr ?_; (first | omega | (simp; done) | (simp; omega))))) | (with_reducible refine Out.alloc ?_ _) | (with_reducible refine Out.drew ?_) | (with_reducible refine Out.drewN ?_ _) | (refine Out.step ?_ (by with_reducible assumption)))))) (inR_mono (by first | omega | (simp; done) | (simp; omega)) (by first | omega | (simp; done) | (simp; omega)))
end Go.Proofs.Ytcfhnhhgnophhaa

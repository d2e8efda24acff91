/- spec.ForestOk: the walk (printed by wip/gen/genforest.py). -/
import Derived.Test.YtoijmnnjcoogkaaDoorPkPure
set_option linter.unusedSimpArgs false
set_option linter.unusedVariables false
set_option maxRecDepth 20000
namespace Go.Proofs.YtoijmnnjcoogkaaDoor
open Go.RowKit
set_option maxRecDepth 20000 in
set_option maxHeartbeats 6400000 in
theorem spec_ForestOk (A : Option Addr) (c : Nat) (ts : List Token) (w : World) (hr : SlRd TokenR w w.heap.size (.slice A ts.length c) ts) (hm : szList TokenR ts ≤ 1048576) :
    Calls Tryd.prog 35 #[.agg #[.slice A ts.length c]] w fun e w' => e = .returned (.bool (forestOk ts)) ∧ Below w.heap.size w w' := by
  have hml : ts.length ≤ 1048576 := Nat.le_trans (Nat.le_add_right _ _) hm
  have HAt := Lib.hid (fun (id : Int) (w' : World) (h : SlRd TokenR w' w'.heap.size (.slice A ts.length c) ts) => spec_l08At A c ts id w' h hm)
  have HNm := Lib.hid (fun k t (h : ts[k]? = some t) => names_small hm h)
  generalize hn : ts.length = n at *
  have Hn := Lib.hid hn
  clear hn hm
  by_cases hlen : n ≤ 120
  rotate_left
  · have HL := Lib.hid (forestOk_long (ts := ts) (by rw [Hn.out]; exact hlen))
    have hd : decide ((120 : Int) < (n : Int)) = true := by simp; omega
    go_enter Tryd.func35, Tryd.ntmps35
    go_wp2
    go_ret
    exact ⟨ret_bool (by rw [HL.out]), by (repeat (first | (with_reducible exact Below.refl _ _) | (with_reducible assumption) | ((with_reducible refine Below.setCell ?_ ?_ _); rotate_left; focus (first | omega | (simp; done) | (simp; omega))) | ((with_reducible refine Below.alloc ?_ ?_ _); rotate_left; focus (first | omega | (simp; done) | (simp; omega))) | (with_reducible refine Below.drew ?_) | (with_reducible refine below_drewN ?_ _) | (refine Below.trans ?_ (Below.mono (by with_reducible assumption) (by (first | omega | (simp; done) | (simp; omega)))))))⟩
  go_enter Tryd.func35, Tryd.ntmps35
  go_wp2
  go_loopw [3] (fun i wr => ∃ k : Nat, k ≤ n ∧ i = .int .i64 k ∧ Below w.heap.size w wr ∧ Blk wr w.heap.size 33 #[.slice A n c] ∧ Hid (okAll (inForest ts) idLt ts k = true)) (fun i _ => n - (intOf i).toNat)
  case atStart => exact ⟨0, Nat.zero_le _, rfl, by (repeat (first | (with_reducible exact Below.refl _ _) | (with_reducible assumption) | ((with_reducible refine Below.setCell ?_ ?_ _); rotate_left; focus (first | omega | (simp; done) | (simp; omega))) | ((with_reducible refine Below.alloc ?_ ?_ _); rotate_left; focus (first | omega | (simp; done) | (simp; omega))) | (with_reducible refine Below.drew ?_) | (with_reducible refine below_drewN ?_ _) | (refine Below.trans ?_ (Below.mono (by with_reducible assumption) (by (first | omega | (simp; done) | (simp; omega))))))), by (repeat (first | (with_reducible assumption) | ((with_reducible refine Blk.new' ?_); focus (simp; done)) | (with_reducible refine Blk.alloc ?_ _) | (with_reducible refine Blk.drew ?_) | (with_reducible refine Blk.drewN ?_ _) | ((with_reducible refine Blk.far ?_ ?_ _); rotate_left; focus (first | omega | (simp; done) | (simp; omega))) | (refine Blk.keep ?_ (by with_reducible assumption)) | (refine Blk.below ?_ (by with_reducible assumption) (by (first | omega | (simp; done) | (simp; omega)))))), Lib.hid rfl⟩
  case round =>
    obtain ⟨k, hk, rfl, hb, hbk, hinv⟩ := hrel
    have hc0 := hbk.cell
    by_cases hlt : k < n
    · have hlx : k < ts.length := by rw [Hn.out]; exact hlt
      have HLx := Lib.hid hlx
      have HG := Lib.hid (List.getElem?_eq_getElem hlx)
      generalize ts[k]'hlx = t at HG
      clear hlx
      obtain ⟨b, off, An, cn, rfl, hab, hnm, hq0, hq1, hq2, hq3, hq4, hq5, hq6⟩ := tok_elem (hr.below hb (Nat.le_refl _)) HG.out
      obtain ⟨-, hnr, -, -, hns⟩ := rd_StringS hnm
      have hnl := HNm.out k t HG.out
      have hzr := hb.size
      have hbk2 := hbk.alloc (.cells #[.int .i64 t.Id, .int .i64 t.Parent, .slice An t.Names.length cn, .int .i64 t.Made, .int .i64 t.Ends, .int .i64 t.Limit, .int .i64 t.Uses] 48)
      have hbt := Blk.new wr 48 #[.int .i64 t.Id, .int .i64 t.Parent, .slice An t.Names.length cn, .int .i64 t.Made, .int .i64 t.Ends, .int .i64 t.Limit, .int .i64 t.Uses]
      have hbW := hb.alloc hzr (.cells #[.int .i64 t.Id, .int .i64 t.Parent, .slice An t.Names.length cn, .int .i64 t.Made, .int .i64 t.Ends, .int .i64 t.Limit, .int .i64 t.Uses] 48)
      have hzW := hbW.size
      have hrW : SlRd TokenR (wr.alloc (.cells #[.int .i64 t.Id, .int .i64 t.Parent, .slice An t.Names.length cn, .int .i64 t.Made, .int .i64 t.Ends, .int .i64 t.Limit, .int .i64 t.Uses] 48)) w.heap.size (.slice (some ⟨b, off, none⟩) n c) ts := hr.below hbW (Nat.le_refl _)
      have hnW : Reads (wr.alloc (.cells #[.int .i64 t.Id, .int .i64 t.Parent, .slice An t.Names.length cn, .int .i64 t.Made, .int .i64 t.Ends, .int .i64 t.Limit, .int .i64 t.Uses] 48)) w.heap.size An (t.Names.map strV) := hnr.below ((Below.refl _ _).alloc hzr _) (Nat.le_refl _)
      have HT := Lib.hid (fun (n' : Lt (wr.alloc (.cells #[.int .i64 t.Id, .int .i64 t.Parent, .slice An t.Names.length cn, .int .i64 t.Made, .int .i64 t.Ends, .int .i64 t.Limit, .int .i64 t.Uses] 48))) => HAt.out t.Parent (later _ n') ((hrW.below (later_below _ n') hzW).more (Nat.le_trans hzW (later_below _ n').size)))
      have HI := Lib.hid (fun (n' : Lt (wr.alloc (.cells #[.int .i64 t.Id, .int .i64 t.Parent, .slice An t.Names.length cn, .int .i64 t.Made, .int .i64 t.Ends, .int .i64 t.Limit, .int .i64 t.Uses] 48))) => spec_l08Token t An cn (later _ n') ((hnW.below (later_below _ n') hzW).more (Nat.le_trans hzW (later_below _ n').size)) hns (by omega))
      clear hnW hnr hnm hns hnl
      cases hok : tokOk t
      · have HX := Lib.hid (inForest_bad (ts := ts) hok)
        go_wp2
        generalize (wr.alloc (.cells #[.int .i64 t.Id, .int .i64 t.Parent, .slice An t.Names.length cn, .int .i64 t.Made, .int .i64 t.Ends, .int .i64 t.Limit, .int .i64 t.Uses] 48)) = W at *
        have q0 := hbk2.later
        have q1 := hbt.later
        refine wp_region_later (by kernel_rfl) (by kernel_rfl) ?_
        repeat (first | go_big_quiet_step ((go_at_call 52; exact Calls.later_of (by simpa only [hok] using HI.out _))) | quiet_step ((go_at_call 52; exact Calls.later_of (by simpa only [hok] using HI.out _))))
        refine wpQuiet_nil ?_
        intro w3 hb3
        go_wp2
        go_ret
        exact ⟨ret_bool (by rw [forestOk_bad HLx.out (okAt_bad HG.out HX.out)]), by (repeat (first | (with_reducible exact Below.refl _ _) | (with_reducible assumption) | ((with_reducible refine Below.setCell ?_ ?_ _); rotate_left; focus (first | omega | (simp; done) | (simp; omega))) | ((with_reducible refine Below.alloc ?_ ?_ _); rotate_left; focus (first | omega | (simp; done) | (simp; omega))) | (with_reducible refine Below.drew ?_) | (with_reducible refine below_drewN ?_ _) | (refine Below.trans ?_ (Below.mono (by with_reducible assumption) (by (first | omega | (simp; done) | (simp; omega)))))))⟩
      · by_cases h0 : 0 < k
        · have hs1 : k - 1 < ts.length := by rw [Hn.out]; omega
          have HS := Lib.hid (List.getElem?_eq_getElem hs1)
          generalize ts[k - 1]'hs1 = s at HS
          clear hs1
          have hcp0 := (tok_id hrW HS.out).1
          have hd0 : decide ((0 : Int) < (k : Int)) = true := by simpa using h0
          by_cases hid : s.Id < t.Id
          · have hd1 : decide (t.Id ≤ s.Id) = false := by simpa using hid
            have HLt : Hid (idLt s t = true) := Lib.hid (by unfold idLt; simpa using hid)
            cases hp0 : t.Parent == 0
            · have hp1 : (t.Parent != 0) = true := by simp only [bne, hp0]; rfl
              by_cases hx : idxT ts t.Parent < 0
              · have hd2 : decide (idxT ts t.Parent < 0) = true := by simpa using hx
                have HX := Lib.hid (inForest_at (ts := ts) hok hp0)
                have HXX := Lib.hid (show decide (0 ≤ idxT ts t.Parent) = false by simp; omega)
                go_wp2
                generalize (wr.alloc (.cells #[.int .i64 t.Id, .int .i64 t.Parent, .slice An t.Names.length cn, .int .i64 t.Made, .int .i64 t.Ends, .int .i64 t.Limit, .int .i64 t.Uses] 48)) = W at *
                have q0 := hbk2.later
                have q1 := hbt.later
                have q2 := later_cell hcp0
                refine wp_region_later (by kernel_rfl) (by kernel_rfl) ?_
                repeat (first | go_big_quiet_step ((first | (go_at_call 52; exact Calls.later_of (by simpa only [hok] using HI.out _)) | (go_at_call 36; exact Calls.later_of (HT.out _)))) | quiet_step ((first | (go_at_call 52; exact Calls.later_of (by simpa only [hok] using HI.out _)) | (go_at_call 36; exact Calls.later_of (HT.out _)))))
                refine wpQuiet_nil ?_
                intro w3 hb3
                go_wp2
                go_ret
                exact ⟨ret_bool (by rw [forestOk_bad HLx.out (by rw [okAt_next h0 HG.out HS.out, HX.out, HXX.out]; rfl)]), by (repeat (first | (with_reducible exact Below.refl _ _) | (with_reducible assumption) | ((with_reducible refine Below.setCell ?_ ?_ _); rotate_left; focus (first | omega | (simp; done) | (simp; omega))) | ((with_reducible refine Below.alloc ?_ ?_ _); rotate_left; focus (first | omega | (simp; done) | (simp; omega))) | (with_reducible refine Below.drew ?_) | (with_reducible refine below_drewN ?_ _) | (refine Below.trans ?_ (Below.mono (by with_reducible assumption) (by (first | omega | (simp; done) | (simp; omega)))))))⟩
              · have hd2 : decide (idxT ts t.Parent < 0) = false := by simpa using hx
                have HX := Lib.hid (inForest_at (ts := ts) hok hp0)
                have HXX := Lib.hid (show decide (0 ≤ idxT ts t.Parent) = true by simp; omega)
                go_wp2
                generalize (wr.alloc (.cells #[.int .i64 t.Id, .int .i64 t.Parent, .slice An t.Names.length cn, .int .i64 t.Made, .int .i64 t.Ends, .int .i64 t.Limit, .int .i64 t.Uses] 48)) = W at *
                have q0 := hbk2.later
                have q1 := hbt.later
                have q2 := later_cell hcp0
                refine wp_region_later (by kernel_rfl) (by kernel_rfl) ?_
                repeat (first | go_big_quiet_step ((first | (go_at_call 52; exact Calls.later_of (by simpa only [hok] using HI.out _)) | (go_at_call 36; exact Calls.later_of (HT.out _)))) | quiet_step ((first | (go_at_call 52; exact Calls.later_of (by simpa only [hok] using HI.out _)) | (go_at_call 36; exact Calls.later_of (HT.out _)))))
                refine wpQuiet_nil ?_
                intro w3 hb3
                go_wp2
                go_roundw
                case rel => exact ⟨k + 1, by omega, by go_num, by (repeat (first | (with_reducible exact Below.refl _ _) | (with_reducible assumption) | ((with_reducible refine Below.setCell ?_ ?_ _); rotate_left; focus (first | omega | (simp; done) | (simp; omega))) | ((with_reducible refine Below.alloc ?_ ?_ _); rotate_left; focus (first | omega | (simp; done) | (simp; omega))) | (with_reducible refine Below.drew ?_) | (with_reducible refine below_drewN ?_ _) | (refine Below.trans ?_ (Below.mono (by with_reducible assumption) (by (first | omega | (simp; done) | (simp; omega))))))), hbk2.keep hb3, Lib.hid (by rw [okAll_succ, hinv.out, okAt_next h0 HG.out HS.out, HX.out, HXX.out, HLt.out]; rfl)⟩
                case measure => simp [intOf]; omega
            · have hp1 : (t.Parent != 0) = false := by simp only [bne, hp0]; rfl
              have HX := Lib.hid (inForest_zero (ts := ts) hok hp0)
              go_wp2
              generalize (wr.alloc (.cells #[.int .i64 t.Id, .int .i64 t.Parent, .slice An t.Names.length cn, .int .i64 t.Made, .int .i64 t.Ends, .int .i64 t.Limit, .int .i64 t.Uses] 48)) = W at *
              have q0 := hbk2.later
              have q1 := hbt.later
              have q2 := later_cell hcp0
              refine wp_region_later (by kernel_rfl) (by kernel_rfl) ?_
              repeat (first | go_big_quiet_step ((go_at_call 52; exact Calls.later_of (by simpa only [hok] using HI.out _))) | quiet_step ((go_at_call 52; exact Calls.later_of (by simpa only [hok] using HI.out _))))
              refine wpQuiet_nil ?_
              intro w3 hb3
              go_wp2
              go_roundw
              case rel => exact ⟨k + 1, by omega, by go_num, by (repeat (first | (with_reducible exact Below.refl _ _) | (with_reducible assumption) | ((with_reducible refine Below.setCell ?_ ?_ _); rotate_left; focus (first | omega | (simp; done) | (simp; omega))) | ((with_reducible refine Below.alloc ?_ ?_ _); rotate_left; focus (first | omega | (simp; done) | (simp; omega))) | (with_reducible refine Below.drew ?_) | (with_reducible refine below_drewN ?_ _) | (refine Below.trans ?_ (Below.mono (by with_reducible assumption) (by (first | omega | (simp; done) | (simp; omega))))))), hbk2.keep hb3, Lib.hid (by rw [okAll_succ, hinv.out, okAt_next h0 HG.out HS.out, HX.out, HLt.out]; rfl)⟩
              case measure => simp [intOf]; omega
          · have hd1 : decide (t.Id ≤ s.Id) = true := by simpa using hid
            have HLt : Hid (idLt s t = false) := Lib.hid (by unfold idLt; simpa using hid)
            go_wp2
            generalize (wr.alloc (.cells #[.int .i64 t.Id, .int .i64 t.Parent, .slice An t.Names.length cn, .int .i64 t.Made, .int .i64 t.Ends, .int .i64 t.Limit, .int .i64 t.Uses] 48)) = W at *
            have q0 := hbk2.later
            have q1 := hbt.later
            have q2 := later_cell hcp0
            refine wp_region_later (by kernel_rfl) (by kernel_rfl) ?_
            repeat (first | go_big_quiet_step ((go_at_call 52; exact Calls.later_of (by simpa only [hok] using HI.out _))) | quiet_step ((go_at_call 52; exact Calls.later_of (by simpa only [hok] using HI.out _))))
            refine wpQuiet_nil ?_
            intro w3 hb3
            go_wp2
            go_ret
            exact ⟨ret_bool (by rw [forestOk_bad HLx.out (okAt_order h0 HG.out HS.out HLt.out)]), by (repeat (first | (with_reducible exact Below.refl _ _) | (with_reducible assumption) | ((with_reducible refine Below.setCell ?_ ?_ _); rotate_left; focus (first | omega | (simp; done) | (simp; omega))) | ((with_reducible refine Below.alloc ?_ ?_ _); rotate_left; focus (first | omega | (simp; done) | (simp; omega))) | (with_reducible refine Below.drew ?_) | (with_reducible refine below_drewN ?_ _) | (refine Below.trans ?_ (Below.mono (by with_reducible assumption) (by (first | omega | (simp; done) | (simp; omega)))))))⟩
        · have hd0 : decide ((0 : Int) < (k : Int)) = false := by simpa using h0
          cases hp0 : t.Parent == 0
          · have hp1 : (t.Parent != 0) = true := by simp only [bne, hp0]; rfl
            by_cases hx : idxT ts t.Parent < 0
            · have hd2 : decide (idxT ts t.Parent < 0) = true := by simpa using hx
              have HX := Lib.hid (inForest_at (ts := ts) hok hp0)
              have HXX := Lib.hid (show decide (0 ≤ idxT ts t.Parent) = false by simp; omega)
              go_wp2
              generalize (wr.alloc (.cells #[.int .i64 t.Id, .int .i64 t.Parent, .slice An t.Names.length cn, .int .i64 t.Made, .int .i64 t.Ends, .int .i64 t.Limit, .int .i64 t.Uses] 48)) = W at *
              have q0 := hbk2.later
              have q1 := hbt.later
              refine wp_region_later (by kernel_rfl) (by kernel_rfl) ?_
              repeat (first | go_big_quiet_step ((first | (go_at_call 52; exact Calls.later_of (by simpa only [hok] using HI.out _)) | (go_at_call 36; exact Calls.later_of (HT.out _)))) | quiet_step ((first | (go_at_call 52; exact Calls.later_of (by simpa only [hok] using HI.out _)) | (go_at_call 36; exact Calls.later_of (HT.out _)))))
              refine wpQuiet_nil ?_
              intro w3 hb3
              go_wp2
              go_ret
              exact ⟨ret_bool (by rw [forestOk_bad HLx.out (by rw [okAt_first h0 HG.out, HX.out, HXX.out])]), by (repeat (first | (with_reducible exact Below.refl _ _) | (with_reducible assumption) | ((with_reducible refine Below.setCell ?_ ?_ _); rotate_left; focus (first | omega | (simp; done) | (simp; omega))) | ((with_reducible refine Below.alloc ?_ ?_ _); rotate_left; focus (first | omega | (simp; done) | (simp; omega))) | (with_reducible refine Below.drew ?_) | (with_reducible refine below_drewN ?_ _) | (refine Below.trans ?_ (Below.mono (by with_reducible assumption) (by (first | omega | (simp; done) | (simp; omega)))))))⟩
            · have hd2 : decide (idxT ts t.Parent < 0) = false := by simpa using hx
              have HX := Lib.hid (inForest_at (ts := ts) hok hp0)
              have HXX := Lib.hid (show decide (0 ≤ idxT ts t.Parent) = true by simp; omega)
              go_wp2
              generalize (wr.alloc (.cells #[.int .i64 t.Id, .int .i64 t.Parent, .slice An t.Names.length cn, .int .i64 t.Made, .int .i64 t.Ends, .int .i64 t.Limit, .int .i64 t.Uses] 48)) = W at *
              have q0 := hbk2.later
              have q1 := hbt.later
              refine wp_region_later (by kernel_rfl) (by kernel_rfl) ?_
              repeat (first | go_big_quiet_step ((first | (go_at_call 52; exact Calls.later_of (by simpa only [hok] using HI.out _)) | (go_at_call 36; exact Calls.later_of (HT.out _)))) | quiet_step ((first | (go_at_call 52; exact Calls.later_of (by simpa only [hok] using HI.out _)) | (go_at_call 36; exact Calls.later_of (HT.out _)))))
              refine wpQuiet_nil ?_
              intro w3 hb3
              go_wp2
              go_roundw
              case rel => exact ⟨k + 1, by omega, by go_num, by (repeat (first | (with_reducible exact Below.refl _ _) | (with_reducible assumption) | ((with_reducible refine Below.setCell ?_ ?_ _); rotate_left; focus (first | omega | (simp; done) | (simp; omega))) | ((with_reducible refine Below.alloc ?_ ?_ _); rotate_left; focus (first | omega | (simp; done) | (simp; omega))) | (with_reducible refine Below.drew ?_) | (with_reducible refine below_drewN ?_ _) | (refine Below.trans ?_ (Below.mono (by with_reducible assumption) (by (first | omega | (simp; done) | (simp; omega))))))), hbk2.keep hb3, Lib.hid (by rw [okAll_succ, hinv.out, okAt_first h0 HG.out, HX.out, HXX.out]; rfl)⟩
              case measure => simp [intOf]; omega
          · have hp1 : (t.Parent != 0) = false := by simp only [bne, hp0]; rfl
            have HX := Lib.hid (inForest_zero (ts := ts) hok hp0)
            go_wp2
            generalize (wr.alloc (.cells #[.int .i64 t.Id, .int .i64 t.Parent, .slice An t.Names.length cn, .int .i64 t.Made, .int .i64 t.Ends, .int .i64 t.Limit, .int .i64 t.Uses] 48)) = W at *
            have q0 := hbk2.later
            have q1 := hbt.later
            refine wp_region_later (by kernel_rfl) (by kernel_rfl) ?_
            repeat (first | go_big_quiet_step ((go_at_call 52; exact Calls.later_of (by simpa only [hok] using HI.out _))) | quiet_step ((go_at_call 52; exact Calls.later_of (by simpa only [hok] using HI.out _))))
            refine wpQuiet_nil ?_
            intro w3 hb3
            go_wp2
            go_roundw
            case rel => exact ⟨k + 1, by omega, by go_num, by (repeat (first | (with_reducible exact Below.refl _ _) | (with_reducible assumption) | ((with_reducible refine Below.setCell ?_ ?_ _); rotate_left; focus (first | omega | (simp; done) | (simp; omega))) | ((with_reducible refine Below.alloc ?_ ?_ _); rotate_left; focus (first | omega | (simp; done) | (simp; omega))) | (with_reducible refine Below.drew ?_) | (with_reducible refine below_drewN ?_ _) | (refine Below.trans ?_ (Below.mono (by with_reducible assumption) (by (first | omega | (simp; done) | (simp; omega))))))), hbk2.keep hb3, Lib.hid (by rw [okAll_succ, hinv.out, okAt_first h0 HG.out, HX.out]; rfl)⟩
            case measure => simp [intOf]; omega
    · obtain rfl : k = n := by omega
      have HD : Hid (forestOk ts = true) := Lib.hid (by rw [forestOk_done (by rw [Hn.out]; exact hinv.out), Hn.out]; simpa using hlen)
      go_wp2
      go_ret
      exact ⟨ret_bool (by rw [HD.out]), by (repeat (first | (with_reducible exact Below.refl _ _) | (with_reducible assumption) | ((with_reducible refine Below.setCell ?_ ?_ _); rotate_left; focus (first | omega | (simp; done) | (simp; omega))) | ((with_reducible refine Below.alloc ?_ ?_ _); rotate_left; focus (first | omega | (simp; done) | (simp; omega))) | (with_reducible refine Below.drew ?_) | (with_reducible refine below_drewN ?_ _) | (refine Below.trans ?_ (Below.mono (by with_reducible assumption) (by (first | omega | (simp; done) | (simp; omega)))))))⟩
end Go.Proofs.YtoijmnnjcoogkaaDoor

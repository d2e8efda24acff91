/- spec.BookOk: the walk (printed by wip/gen/genbook.py). -/
import Derived.Test.YtohfnpohmieknaaDoorPureBook
set_option linter.unusedSimpArgs false
set_option linter.unusedVariables false
set_option maxRecDepth 20000
namespace Go.Proofs.YtohfnpohmieknaaDoor
open Go.RowKit
set_option maxHeartbeats 6400000 in
theorem spec_BookOk (A : Option Addr) (c : Nat) (ls : List Lease) (w : World) (hr : SlRd LeaseR w w.heap.size (.slice A ls.length c) ls) (hm : ls.length ≤ 140737488351232) :
    Calls Tryd.prog 23 #[.agg #[.slice A ls.length c]] w fun e w' => e = .returned (.bool (bookOk ls)) ∧ Below w.heap.size w w' := by
  generalize hn : ls.length = n at *
  have Hn := Lib.hid hn
  clear hn
  by_cases hlen : n ≤ 150
  rotate_left
  · have HL := Lib.hid (bookOk_long (ls := ls) (by rw [Hn.out]; exact hlen))
    have hd : decide ((150 : Int) < (n : Int)) = true := by simp; omega
    go_enter Tryd.func23, Tryd.ntmps23
    go_wp2
    go_ret
    exact ⟨ret_bool (by rw [HL.out]), by (repeat (first | (with_reducible exact Below.refl _ _) | (with_reducible assumption) | ((with_reducible refine Below.setCell ?_ ?_ _); rotate_left; focus (first | omega | (simp; done) | (simp; omega))) | ((with_reducible refine Below.alloc ?_ ?_ _); rotate_left; focus (first | omega | (simp; done) | (simp; omega))) | (with_reducible refine Below.drew ?_) | (with_reducible refine below_drewN ?_ _) | (refine Below.trans ?_ (Below.mono (by with_reducible assumption) (by (first | omega | (simp; done) | (simp; omega)))))))⟩
  go_enter Tryd.func23, Tryd.ntmps23
  go_wp2
  go_loopw [3] (fun i wr => ∃ k : Nat, k ≤ n ∧ i = .int .i64 k ∧ Below w.heap.size w wr ∧ Blk wr w.heap.size 26 #[.slice A n c] ∧ Hid (okAll leaseOk leaseLt ls k = true)) (fun i _ => n - (intOf i).toNat)
  case atStart => exact ⟨0, Nat.zero_le _, rfl, by (repeat (first | (with_reducible exact Below.refl _ _) | (with_reducible assumption) | ((with_reducible refine Below.setCell ?_ ?_ _); rotate_left; focus (first | omega | (simp; done) | (simp; omega))) | ((with_reducible refine Below.alloc ?_ ?_ _); rotate_left; focus (first | omega | (simp; done) | (simp; omega))) | (with_reducible refine Below.drew ?_) | (with_reducible refine below_drewN ?_ _) | (refine Below.trans ?_ (Below.mono (by with_reducible assumption) (by (first | omega | (simp; done) | (simp; omega))))))), by (repeat (first | (with_reducible assumption) | ((with_reducible refine Blk.new' ?_); focus (simp; done)) | (with_reducible refine Blk.alloc ?_ _) | (with_reducible refine Blk.drew ?_) | (with_reducible refine Blk.drewN ?_ _) | ((with_reducible refine Blk.far ?_ ?_ _); rotate_left; focus (first | omega | (simp; done) | (simp; omega))) | (refine Blk.keep ?_ (by with_reducible assumption)) | (refine Blk.below ?_ (by with_reducible assumption) (by (first | omega | (simp; done) | (simp; omega)))))), Lib.hid rfl⟩
  case round =>
    obtain ⟨k, hk, rfl, hb, hbk, hinv⟩ := hrel
    have hc0 := hbk.cell
    by_cases hlt : k < n
    · have hlx : k < ls.length := by rw [Hn.out]; exact hlt
      have HLx := Lib.hid hlx
      have HG := Lib.hid (List.getElem?_eq_getElem hlx)
      generalize ls[k]'hlx = l at HG
      clear hlx
      obtain ⟨b, off, rfl, hab, hps, hq0, hq1, hq2, hq3, hq4, hq5⟩ := lease_elem (hr.below hb (Nat.le_refl _)) HG.out
      have hzr := hb.size
      have hbk2 := hbk
      have hbW := hb
      have hzW := hzr
      have hrW : SlRd LeaseR wr w.heap.size (.slice (some ⟨b, off, none⟩) n c) ls := hr.below hb (Nat.le_refl _)
      have HI := Lib.hid (fun (n' : Lt wr) => spec_l09Lease l (later _ n') hps)
      cases hok : leaseOk l
      · have HX := Lib.hid hok
        go_wp2
        have q0 := hbk2.later
        have q1 := later_cell hq0
        have q3 := later_cell hq1
        have q4 := later_cell hq2
        have q5 := later_cell hq3
        have q6 := later_cell hq4
        have q7 := later_cell hq5
        refine wp_region_later (by kernel_rfl) (by kernel_rfl) ?_
        repeat (first | go_big_quiet_step ((go_at_call 30; exact Calls.later_of (by simpa only [hok] using HI.out _))) | quiet_step ((go_at_call 30; exact Calls.later_of (by simpa only [hok] using HI.out _))))
        refine wpQuiet_nil ?_
        intro w3 hb3
        go_wp2
        go_ret
        exact ⟨ret_bool (by rw [bookOk_bad HLx.out (okAt_bad HG.out HX.out)]), by (repeat (first | (with_reducible exact Below.refl _ _) | (with_reducible assumption) | ((with_reducible refine Below.setCell ?_ ?_ _); rotate_left; focus (first | omega | (simp; done) | (simp; omega))) | ((with_reducible refine Below.alloc ?_ ?_ _); rotate_left; focus (first | omega | (simp; done) | (simp; omega))) | (with_reducible refine Below.drew ?_) | (with_reducible refine below_drewN ?_ _) | (refine Below.trans ?_ (Below.mono (by with_reducible assumption) (by (first | omega | (simp; done) | (simp; omega)))))))⟩
      · have HX := Lib.hid hok
        by_cases h0 : 0 < k
        · have hs1 : k - 1 < ls.length := by rw [Hn.out]; omega
          have HS := Lib.hid (List.getElem?_eq_getElem hs1)
          generalize ls[k - 1]'hs1 = s at HS
          clear hs1
          have hcp0 := lease_id hrW HS.out
          have hd0 : decide ((0 : Int) < (k : Int)) = true := by simpa using h0
          by_cases hid : s.Id < l.Id
          · have hd1 : decide (l.Id ≤ s.Id) = false := by simpa using hid
            have HLt : Hid (leaseLt s l = true) := Lib.hid (by unfold leaseLt; simpa using hid)
            go_wp2
            have q0 := hbk2.later
            have q1 := later_cell hq0
            have q3 := later_cell hq1
            have q4 := later_cell hq2
            have q5 := later_cell hq3
            have q6 := later_cell hq4
            have q7 := later_cell hq5
            have q2 := later_cell hcp0
            refine wp_region_later (by kernel_rfl) (by kernel_rfl) ?_
            repeat (first | go_big_quiet_step ((go_at_call 30; exact Calls.later_of (by simpa only [hok] using HI.out _))) | quiet_step ((go_at_call 30; exact Calls.later_of (by simpa only [hok] using HI.out _))))
            refine wpQuiet_nil ?_
            intro w3 hb3
            go_wp2
            go_roundw
            case rel => exact ⟨k + 1, by omega, by go_num, by (repeat (first | (with_reducible exact Below.refl _ _) | (with_reducible assumption) | ((with_reducible refine Below.setCell ?_ ?_ _); rotate_left; focus (first | omega | (simp; done) | (simp; omega))) | ((with_reducible refine Below.alloc ?_ ?_ _); rotate_left; focus (first | omega | (simp; done) | (simp; omega))) | (with_reducible refine Below.drew ?_) | (with_reducible refine below_drewN ?_ _) | (refine Below.trans ?_ (Below.mono (by with_reducible assumption) (by (first | omega | (simp; done) | (simp; omega))))))), hbk2.keep hb3, Lib.hid (by rw [okAll_succ, hinv.out, okAt_next h0 HG.out HS.out, HX.out, HLt.out]; rfl)⟩
            case measure => simp [intOf]; omega
          · have hd1 : decide (l.Id ≤ s.Id) = true := by simpa using hid
            have HLt : Hid (leaseLt s l = false) := Lib.hid (by unfold leaseLt; simpa using hid)
            go_wp2
            have q0 := hbk2.later
            have q1 := later_cell hq0
            have q3 := later_cell hq1
            have q4 := later_cell hq2
            have q5 := later_cell hq3
            have q6 := later_cell hq4
            have q7 := later_cell hq5
            have q2 := later_cell hcp0
            refine wp_region_later (by kernel_rfl) (by kernel_rfl) ?_
            repeat (first | go_big_quiet_step ((go_at_call 30; exact Calls.later_of (by simpa only [hok] using HI.out _))) | quiet_step ((go_at_call 30; exact Calls.later_of (by simpa only [hok] using HI.out _))))
            refine wpQuiet_nil ?_
            intro w3 hb3
            go_wp2
            go_ret
            exact ⟨ret_bool (by rw [bookOk_bad HLx.out (okAt_order h0 HG.out HS.out HLt.out)]), by (repeat (first | (with_reducible exact Below.refl _ _) | (with_reducible assumption) | ((with_reducible refine Below.setCell ?_ ?_ _); rotate_left; focus (first | omega | (simp; done) | (simp; omega))) | ((with_reducible refine Below.alloc ?_ ?_ _); rotate_left; focus (first | omega | (simp; done) | (simp; omega))) | (with_reducible refine Below.drew ?_) | (with_reducible refine below_drewN ?_ _) | (refine Below.trans ?_ (Below.mono (by with_reducible assumption) (by (first | omega | (simp; done) | (simp; omega)))))))⟩
        · have hd0 : decide ((0 : Int) < (k : Int)) = false := by simpa using h0
          go_wp2
          have q0 := hbk2.later
          have q1 := later_cell hq0
          have q3 := later_cell hq1
          have q4 := later_cell hq2
          have q5 := later_cell hq3
          have q6 := later_cell hq4
          have q7 := later_cell hq5
          refine wp_region_later (by kernel_rfl) (by kernel_rfl) ?_
          repeat (first | go_big_quiet_step ((go_at_call 30; exact Calls.later_of (by simpa only [hok] using HI.out _))) | quiet_step ((go_at_call 30; exact Calls.later_of (by simpa only [hok] using HI.out _))))
          refine wpQuiet_nil ?_
          intro w3 hb3
          go_wp2
          go_roundw
          case rel => exact ⟨k + 1, by omega, by go_num, by (repeat (first | (with_reducible exact Below.refl _ _) | (with_reducible assumption) | ((with_reducible refine Below.setCell ?_ ?_ _); rotate_left; focus (first | omega | (simp; done) | (simp; omega))) | ((with_reducible refine Below.alloc ?_ ?_ _); rotate_left; focus (first | omega | (simp; done) | (simp; omega))) | (with_reducible refine Below.drew ?_) | (with_reducible refine below_drewN ?_ _) | (refine Below.trans ?_ (Below.mono (by with_reducible assumption) (by (first | omega | (simp; done) | (simp; omega))))))), hbk2.keep hb3, Lib.hid (by rw [okAll_succ, hinv.out, okAt_first h0 HG.out, HX.out]; rfl)⟩
          case measure => simp [intOf]; omega
    · obtain rfl : k = n := by omega
      have HD : Hid (bookOk ls = true) := Lib.hid (by rw [bookOk_done (by rw [Hn.out]; exact hinv.out), Hn.out]; simpa using hlen)
      go_wp2
      go_ret
      exact ⟨ret_bool (by rw [HD.out]), by (repeat (first | (with_reducible exact Below.refl _ _) | (with_reducible assumption) | ((with_reducible refine Below.setCell ?_ ?_ _); rotate_left; focus (first | omega | (simp; done) | (simp; omega))) | ((with_reducible refine Below.alloc ?_ ?_ _); rotate_left; focus (first | omega | (simp; done) | (simp; omega))) | (with_reducible refine Below.drew ?_) | (with_reducible refine below_drewN ?_ _) | (refine Below.trans ?_ (Below.mono (by with_reducible assumption) (by (first | omega | (simp; done) | (simp; omega)))))))⟩
end Go.Proofs.YtohfnpohmieknaaDoor

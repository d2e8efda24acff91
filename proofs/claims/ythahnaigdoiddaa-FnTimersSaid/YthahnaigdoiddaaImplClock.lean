/- Contracts of impl's functions on clocks: isClock, ClockOk, TimerAt, NextDue, DueBy. -/
import Derived.Test.YthahnaigdoiddaaImplTimer
set_option linter.unusedSimpArgs false
set_option linter.unusedVariables false
set_option maxRecDepth 20000
namespace Go.Proofs.Ythahnaigdoiddaa
open Go.RowKit
set_option maxHeartbeats 3200000 in
theorem impl_isClock (now : Int) (A : Option Addr) (c : Nat) (ts : List Timer) (w : World) (hr : Reads w w.heap.size A (ts.flatMap Timer.cells)) (hm : ts.length ≤ 140737488351232) (hcap : ts.length ≤ c) :
    Calls Try.prog 19 #[.agg #[.int .i64 now, .slice A ts.length c]] w fun e w' => e = .returned (.bool (clockOk now ts)) ∧ Below w.heap.size w w' := by
  by_cases hnow : withinB now 0 1000000000 = true
  · by_cases hlen : ts.length ≤ 300
    · generalize hn : ts.length = n at hm hlen hcap
      have Hn := Lib.hid hn
      clear hn
      go_enter Try.func19, Try.ntmps19
      go_wp2_with (go_at_call 33; refine (impl_within _ _ _ _).mono ?_; rintro e w' ⟨rfl, rfl⟩)
      go_loopw [18] (fun i wr => ∃ k : Nat, k ≤ n ∧ i = .int .i64 k ∧ Below w.heap.size w wr ∧ Blk wr w.heap.size 26 #[.int .i64 now, .slice A n c] ∧ Hid (goodAll ts k = true)) (fun i _ => n - (intOf i).toNat)
      case atStart => exact ⟨0, Nat.zero_le _, rfl, by (repeat (first | (with_reducible exact Below.refl _ _) | (with_reducible assumption) | ((with_reducible refine Below.setCell ?_ ?_ _); rotate_left; focus (first | omega | (simp; done) | (simp; omega))) | ((with_reducible refine Below.alloc ?_ ?_ _); rotate_left; focus (first | omega | (simp; done) | (simp; omega))) | (with_reducible refine Below.drew ?_) | (with_reducible refine below_drewN ?_ _) | (refine Below.trans ?_ (Below.mono (by with_reducible assumption) (by (first | omega | (simp; done) | (simp; omega))))))), by (repeat (first | (with_reducible assumption) | ((with_reducible refine Blk.new' ?_); focus (simp; done)) | (with_reducible refine Blk.alloc ?_ _) | (with_reducible refine Blk.drew ?_) | (with_reducible refine Blk.drewN ?_ _) | ((with_reducible refine Blk.far ?_ ?_ _); rotate_left; focus (first | omega | (simp; done) | (simp; omega))) | (refine Blk.keep ?_ (by with_reducible assumption)) | (refine Blk.below ?_ (by with_reducible assumption) (by (first | omega | (simp; done) | (simp; omega)))))), rfl⟩
      case round =>
        obtain ⟨k, hk, rfl, hb, hbk, hinv⟩ := hrel
        have hc0 := hbk.cell
        by_cases hlt : k < n
        · have hlx : k < ts.length := by rw [Hn.out]; exact hlt
          obtain ⟨b, off, rfl, hab, hc1⟩ := hr.elem Timer.len (by omega) hlx hb (Nat.le_refl _)
          have HG := Lib.hid (List.getElem?_eq_getElem hlx)
          generalize ts[k]'hlx = t at hc1 HG
          have hc10 := hc1 0 (by omega)
          have hc11 := hc1 1 (by omega)
          simp only [Timer.cells, List.getElem?_cons_zero, List.getElem?_cons_succ, Nat.add_zero] at hc10 hc11
          clear hc1
          have hzr := hb.size
          have hbk2 := hbk.alloc (.cells #[.int .i64 t.At, .int .i64 t.Id] 52)
          have hbt := Blk.new wr 52 #[.int .i64 t.At, .int .i64 t.Id]
          have hbW := hb.alloc hzr (.cells #[.int .i64 t.At, .int .i64 t.Id] 52)
          have hzW := hbW.size
          have hrW : Reads (wr.alloc (.cells #[.int .i64 t.At, .int .i64 t.Id] 52)) w.heap.size (some ⟨b, off, none⟩) (ts.flatMap Timer.cells) := hr.below hbW (Nat.le_refl _)
          have HTI : ∀ n' : Lt (wr.alloc (.cells #[.int .i64 t.At, .int .i64 t.Id] 52)), Calls Try.prog 22 #[.agg #[.int .i64 0, .slice (some ⟨b, off, none⟩) k c], .int .i64 t.Id] (later _ n') fun e w' => e = .returned (.int .i64 (idxB (hasId t.Id) (ts.take k))) ∧ Below (later _ n').heap.size (later _ n') w' :=
            fun n' => Calls.cast (by rw [List.length_take, Hn.out, Nat.min_eq_left (by omega)]) (impl_timerIndex 0 _ c (ts.take k) t.Id _ (((hrW.takeE k).below (later_below _ n') hzW).more (Nat.le_trans hzW (later_below _ n').size)) (by rw [List.length_take]; omega))
          have HT := Lib.hid HTI
          clear HTI
          by_cases hok : timerOk t = true
          · by_cases h0 : 0 < k
            · have hs1 : k - 1 < ts.length := by omega
              have HS := Lib.hid (List.getElem?_eq_getElem hs1)
              have hcp := hrW.elem_at Timer.len (by omega) hs1 (Below.refl _ _)
              generalize ts[k - 1]'hs1 = s at hcp HS
              have hd0 : decide ((0 : Int) < (k : Int)) = true := by simpa using h0
              have hcp0 := hcp 0 (by omega)
              have hcp1 := hcp 1 (by omega)
              simp only [Timer.cells, List.getElem?_cons_zero, List.getElem?_cons_succ, Nat.add_zero] at hcp0 hcp1
              clear hcp
              by_cases hcmp : cmpT s t < 0
              · have hd1 : decide ((0 : Int) ≤ cmpT s t) = false := by simpa using hcmp
                by_cases hx : idxB (hasId t.Id) (ts.take k) < 0
                · have hd2 : decide ((0 : Int) ≤ idxB (hasId t.Id) (ts.take k)) = false := by simpa using hx
                  go_wp2
                  generalize (wr.alloc (.cells #[.int .i64 t.At, .int .i64 t.Id] 52)) = W at *
                  have q0 := hbk2.later
                  have q1 := hbt.later
                  have q2 := later_cell hcp0
                  have q3 := later_cell hcp1
                  refine wp_region_later (by kernel_rfl) (by kernel_rfl) ?_
                  repeat (first | go_big_quiet_step ((first | (go_at_call 34; exact Calls.later_of (by simpa only [hok] using impl_isTimer t _)) | (go_at_call 35; exact Calls.later_of (impl_compareTimers s t _)) | (go_at_call 22; exact Calls.later_of (HT.out _)))) | quiet_step ((first | (go_at_call 34; exact Calls.later_of (by simpa only [hok] using impl_isTimer t _)) | (go_at_call 35; exact Calls.later_of (impl_compareTimers s t _)) | (go_at_call 22; exact Calls.later_of (HT.out _)))))
                  refine wpQuiet_nil ?_
                  intro w3 hb3
                  go_wp2
                  go_roundw
                  case rel => exact ⟨k + 1, by omega, by go_num, by (repeat (first | (with_reducible exact Below.refl _ _) | (with_reducible assumption) | ((with_reducible refine Below.setCell ?_ ?_ _); rotate_left; focus (first | omega | (simp; done) | (simp; omega))) | ((with_reducible refine Below.alloc ?_ ?_ _); rotate_left; focus (first | omega | (simp; done) | (simp; omega))) | (with_reducible refine Below.drew ?_) | (with_reducible refine below_drewN ?_ _) | (refine Below.trans ?_ (Below.mono (by with_reducible assumption) (by (first | omega | (simp; done) | (simp; omega))))))), hbk2.keep hb3, by unfold Hid; rw [goodAll_succ, hinv.out, goodB_next h0 HG.out HS.out hok hcmp]; simpa using hx⟩
                  case measure => simp [intOf]; omega
                · have hd2 : decide ((0 : Int) ≤ idxB (hasId t.Id) (ts.take k)) = true := by simpa using hx
                  go_wp2
                  generalize (wr.alloc (.cells #[.int .i64 t.At, .int .i64 t.Id] 52)) = W at *
                  have q0 := hbk2.later
                  have q1 := hbt.later
                  have q2 := later_cell hcp0
                  have q3 := later_cell hcp1
                  refine wp_region_later (by kernel_rfl) (by kernel_rfl) ?_
                  repeat (first | go_big_quiet_step ((first | (go_at_call 34; exact Calls.later_of (by simpa only [hok] using impl_isTimer t _)) | (go_at_call 35; exact Calls.later_of (impl_compareTimers s t _)) | (go_at_call 22; exact Calls.later_of (HT.out _)))) | quiet_step ((first | (go_at_call 34; exact Calls.later_of (by simpa only [hok] using impl_isTimer t _)) | (go_at_call 35; exact Calls.later_of (impl_compareTimers s t _)) | (go_at_call 22; exact Calls.later_of (HT.out _)))))
                  refine wpQuiet_nil ?_
                  intro w3 hb3
                  go_wp2
                  go_ret
                  have hg := goodAll_false (by rw [Hn.out]; exact hlt) (by rw [goodB_next h0 HG.out HS.out hok hcmp]; simpa using hx)
                  exact ⟨ret_bool (by simp [clockOk, hg]), by (repeat (first | (with_reducible exact Below.refl _ _) | (with_reducible assumption) | ((with_reducible refine Below.setCell ?_ ?_ _); rotate_left; focus (first | omega | (simp; done) | (simp; omega))) | ((with_reducible refine Below.alloc ?_ ?_ _); rotate_left; focus (first | omega | (simp; done) | (simp; omega))) | (with_reducible refine Below.drew ?_) | (with_reducible refine below_drewN ?_ _) | (refine Below.trans ?_ (Below.mono (by with_reducible assumption) (by (first | omega | (simp; done) | (simp; omega)))))))⟩
              · have hd1 : decide ((0 : Int) ≤ cmpT s t) = true := by simpa using hcmp
                go_wp2
                generalize (wr.alloc (.cells #[.int .i64 t.At, .int .i64 t.Id] 52)) = W at *
                have q0 := hbk2.later
                have q1 := hbt.later
                have q2 := later_cell hcp0
                have q3 := later_cell hcp1
                refine wp_region_later (by kernel_rfl) (by kernel_rfl) ?_
                repeat (first | go_big_quiet_step ((first | (go_at_call 34; exact Calls.later_of (by simpa only [hok] using impl_isTimer t _)) | (go_at_call 35; exact Calls.later_of (impl_compareTimers s t _)))) | quiet_step ((first | (go_at_call 34; exact Calls.later_of (by simpa only [hok] using impl_isTimer t _)) | (go_at_call 35; exact Calls.later_of (impl_compareTimers s t _)))))
                refine wpQuiet_nil ?_
                intro w3 hb3
                go_wp2
                go_ret
                have hg := goodAll_false (by rw [Hn.out]; exact hlt) (goodB_order h0 HG.out HS.out (by omega))
                exact ⟨ret_bool (by simp [clockOk, hg]), by (repeat (first | (with_reducible exact Below.refl _ _) | (with_reducible assumption) | ((with_reducible refine Below.setCell ?_ ?_ _); rotate_left; focus (first | omega | (simp; done) | (simp; omega))) | ((with_reducible refine Below.alloc ?_ ?_ _); rotate_left; focus (first | omega | (simp; done) | (simp; omega))) | (with_reducible refine Below.drew ?_) | (with_reducible refine below_drewN ?_ _) | (refine Below.trans ?_ (Below.mono (by with_reducible assumption) (by (first | omega | (simp; done) | (simp; omega)))))))⟩
            · have hd0 : decide ((0 : Int) < (k : Int)) = false := by simpa using h0
              by_cases hx : idxB (hasId t.Id) (ts.take k) < 0
              · have hd2 : decide ((0 : Int) ≤ idxB (hasId t.Id) (ts.take k)) = false := by simpa using hx
                go_wp2
                generalize (wr.alloc (.cells #[.int .i64 t.At, .int .i64 t.Id] 52)) = W at *
                have q0 := hbk2.later
                have q1 := hbt.later
                refine wp_region_later (by kernel_rfl) (by kernel_rfl) ?_
                repeat (first | go_big_quiet_step ((first | (go_at_call 34; exact Calls.later_of (by simpa only [hok] using impl_isTimer t _)) | (go_at_call 22; exact Calls.later_of (HT.out _)))) | quiet_step ((first | (go_at_call 34; exact Calls.later_of (by simpa only [hok] using impl_isTimer t _)) | (go_at_call 22; exact Calls.later_of (HT.out _)))))
                refine wpQuiet_nil ?_
                intro w3 hb3
                go_wp2
                go_roundw
                case rel => exact ⟨k + 1, by omega, by go_num, by (repeat (first | (with_reducible exact Below.refl _ _) | (with_reducible assumption) | ((with_reducible refine Below.setCell ?_ ?_ _); rotate_left; focus (first | omega | (simp; done) | (simp; omega))) | ((with_reducible refine Below.alloc ?_ ?_ _); rotate_left; focus (first | omega | (simp; done) | (simp; omega))) | (with_reducible refine Below.drew ?_) | (with_reducible refine below_drewN ?_ _) | (refine Below.trans ?_ (Below.mono (by with_reducible assumption) (by (first | omega | (simp; done) | (simp; omega))))))), hbk2.keep hb3, by unfold Hid; rw [goodAll_succ, hinv.out, goodB_first (by omega) HG.out hok]; simpa using hx⟩
                case measure => simp [intOf]; omega
              · have hd2 : decide ((0 : Int) ≤ idxB (hasId t.Id) (ts.take k)) = true := by simpa using hx
                go_wp2
                generalize (wr.alloc (.cells #[.int .i64 t.At, .int .i64 t.Id] 52)) = W at *
                have q0 := hbk2.later
                have q1 := hbt.later
                refine wp_region_later (by kernel_rfl) (by kernel_rfl) ?_
                repeat (first | go_big_quiet_step ((first | (go_at_call 34; exact Calls.later_of (by simpa only [hok] using impl_isTimer t _)) | (go_at_call 22; exact Calls.later_of (HT.out _)))) | quiet_step ((first | (go_at_call 34; exact Calls.later_of (by simpa only [hok] using impl_isTimer t _)) | (go_at_call 22; exact Calls.later_of (HT.out _)))))
                refine wpQuiet_nil ?_
                intro w3 hb3
                go_wp2
                go_ret
                have hg := goodAll_false (by rw [Hn.out]; exact hlt) (by rw [goodB_first (by omega) HG.out hok]; simpa using hx)
                exact ⟨ret_bool (by simp [clockOk, hg]), by (repeat (first | (with_reducible exact Below.refl _ _) | (with_reducible assumption) | ((with_reducible refine Below.setCell ?_ ?_ _); rotate_left; focus (first | omega | (simp; done) | (simp; omega))) | ((with_reducible refine Below.alloc ?_ ?_ _); rotate_left; focus (first | omega | (simp; done) | (simp; omega))) | (with_reducible refine Below.drew ?_) | (with_reducible refine below_drewN ?_ _) | (refine Below.trans ?_ (Below.mono (by with_reducible assumption) (by (first | omega | (simp; done) | (simp; omega)))))))⟩
          · simp only [Bool.not_eq_true] at hok
            go_wp2
            generalize (wr.alloc (.cells #[.int .i64 t.At, .int .i64 t.Id] 52)) = W at *
            have q0 := hbk2.later
            have q1 := hbt.later
            refine wp_region_later (by kernel_rfl) (by kernel_rfl) ?_
            repeat (first | go_big_quiet_step ((go_at_call 34; exact Calls.later_of (by simpa only [hok] using impl_isTimer t _))) | quiet_step ((go_at_call 34; exact Calls.later_of (by simpa only [hok] using impl_isTimer t _))))
            refine wpQuiet_nil ?_
            intro w3 hb3
            go_wp2
            go_ret
            have hg := goodAll_false (by rw [Hn.out]; exact hlt) (goodB_bad HG.out hok)
            exact ⟨ret_bool (by simp [clockOk, hg]), by (repeat (first | (with_reducible exact Below.refl _ _) | (with_reducible assumption) | ((with_reducible refine Below.setCell ?_ ?_ _); rotate_left; focus (first | omega | (simp; done) | (simp; omega))) | ((with_reducible refine Below.alloc ?_ ?_ _); rotate_left; focus (first | omega | (simp; done) | (simp; omega))) | (with_reducible refine Below.drew ?_) | (with_reducible refine below_drewN ?_ _) | (refine Below.trans ?_ (Below.mono (by with_reducible assumption) (by (first | omega | (simp; done) | (simp; omega)))))))⟩
        · obtain rfl : k = n := by omega
          go_wp2
          go_ret
          exact ⟨ret_bool (by simp [clockOk, hnow, Hn.out, hlen, hinv.out]), by (repeat (first | (with_reducible exact Below.refl _ _) | (with_reducible assumption) | ((with_reducible refine Below.setCell ?_ ?_ _); rotate_left; focus (first | omega | (simp; done) | (simp; omega))) | ((with_reducible refine Below.alloc ?_ ?_ _); rotate_left; focus (first | omega | (simp; done) | (simp; omega))) | (with_reducible refine Below.drew ?_) | (with_reducible refine below_drewN ?_ _) | (refine Below.trans ?_ (Below.mono (by with_reducible assumption) (by (first | omega | (simp; done) | (simp; omega)))))))⟩
    · have hd : decide ((300 : Int) < (ts.length : Int)) = true := by simp; omega
      go_enter Try.func19, Try.ntmps19
      go_wp2_with (go_at_call 33; refine (impl_within _ _ _ _).mono ?_; rintro e w' ⟨rfl, rfl⟩)
      go_ret
      exact ⟨ret_bool (by simp [clockOk, hlen]), by (repeat (first | (with_reducible exact Below.refl _ _) | (with_reducible assumption) | ((with_reducible refine Below.setCell ?_ ?_ _); rotate_left; focus (first | omega | (simp; done) | (simp; omega))) | ((with_reducible refine Below.alloc ?_ ?_ _); rotate_left; focus (first | omega | (simp; done) | (simp; omega))) | (with_reducible refine Below.drew ?_) | (with_reducible refine below_drewN ?_ _) | (refine Below.trans ?_ (Below.mono (by with_reducible assumption) (by (first | omega | (simp; done) | (simp; omega)))))))⟩
  · simp only [Bool.not_eq_true] at hnow
    go_enter Try.func19, Try.ntmps19
    go_wp2_with (go_at_call 33; refine (impl_within _ _ _ _).mono ?_; rintro e w' ⟨rfl, rfl⟩)
    go_ret
    exact ⟨ret_bool (by simp [clockOk, hnow]), by (repeat (first | (with_reducible exact Below.refl _ _) | (with_reducible assumption) | ((with_reducible refine Below.setCell ?_ ?_ _); rotate_left; focus (first | omega | (simp; done) | (simp; omega))) | ((with_reducible refine Below.alloc ?_ ?_ _); rotate_left; focus (first | omega | (simp; done) | (simp; omega))) | (with_reducible refine Below.drew ?_) | (with_reducible refine below_drewN ?_ _) | (refine Below.trans ?_ (Below.mono (by with_reducible assumption) (by (first | omega | (simp; done) | (simp; omega)))))))⟩
end Go.Proofs.Ythahnaigdoiddaa

/- Contracts of the reference's functions on timers: l07Ahead, ClockOk, TimerAt, NextDue, DueBy. -/
import Derived.Test.YthahnaigdoiddaaPureTimer
import Derived.Test.YthahnaigdoiddaaClock
set_option linter.unusedSimpArgs false
set_option linter.unusedVariables false
set_option maxRecDepth 20000
namespace Go.Proofs.Ythahnaigdoiddaa
open Go.RowKit
set_option maxHeartbeats 800000 in
theorem spec_l07Ahead (s t : Timer) (w : World) : Calls Try.prog 43 #[.agg #[.int .i64 s.At, .int .i64 s.Id], .agg #[.int .i64 t.At, .int .i64 t.Id]] w fun e w' => e = .returned (.bool (aheadB s t)) ∧ Below w.heap.size w w' := by
  by_cases h1 : s.At < t.At
  · go_enter Try.func43, Try.ntmps43
    go_wp2
    go_ret
    exact ⟨ret_bool (by simp [aheadB, h1]), by (repeat (first | (with_reducible exact Below.refl _ _) | (with_reducible assumption) | ((with_reducible refine Below.setCell ?_ ?_ _); rotate_left; focus (first | omega | (simp; done) | (simp; omega))) | ((with_reducible refine Below.alloc ?_ ?_ _); rotate_left; focus (first | omega | (simp; done) | (simp; omega))) | (with_reducible refine Below.drew ?_) | (with_reducible refine below_drewN ?_ _) | (refine Below.trans ?_ (Below.mono (by with_reducible assumption) (by (first | omega | (simp; done) | (simp; omega)))))))⟩
  · have hd : decide (s.At < t.At) = false := by simpa using h1
    by_cases h2 : (s.At == t.At) = true
    · go_enter Try.func43, Try.ntmps43
      go_wp2
      go_ret
      exact ⟨ret_bool (by simp [aheadB, hd, h2]), by (repeat (first | (with_reducible exact Below.refl _ _) | (with_reducible assumption) | ((with_reducible refine Below.setCell ?_ ?_ _); rotate_left; focus (first | omega | (simp; done) | (simp; omega))) | ((with_reducible refine Below.alloc ?_ ?_ _); rotate_left; focus (first | omega | (simp; done) | (simp; omega))) | (with_reducible refine Below.drew ?_) | (with_reducible refine below_drewN ?_ _) | (refine Below.trans ?_ (Below.mono (by with_reducible assumption) (by (first | omega | (simp; done) | (simp; omega)))))))⟩
    · simp only [Bool.not_eq_true] at h2
      go_enter Try.func43, Try.ntmps43
      go_wp2
      go_ret
      exact ⟨ret_bool (by simp [aheadB, hd, h2]), by (repeat (first | (with_reducible exact Below.refl _ _) | (with_reducible assumption) | ((with_reducible refine Below.setCell ?_ ?_ _); rotate_left; focus (first | omega | (simp; done) | (simp; omega))) | ((with_reducible refine Below.alloc ?_ ?_ _); rotate_left; focus (first | omega | (simp; done) | (simp; omega))) | (with_reducible refine Below.drew ?_) | (with_reducible refine below_drewN ?_ _) | (refine Below.trans ?_ (Below.mono (by with_reducible assumption) (by (first | omega | (simp; done) | (simp; omega)))))))⟩
set_option maxHeartbeats 6400000 in
theorem spec_ClockOk (now : Int) (A : Option Addr) (c : Nat) (ts : List Timer) (w : World) (hr : Reads w w.heap.size A (ts.flatMap Timer.cells)) (hm : ts.length ≤ 140737488351232) :
    Calls Try.prog 26 #[.agg #[.int .i64 now, .slice A ts.length c]] w fun e w' => e = .returned (.bool (clockOk now ts)) ∧ Below w.heap.size w w' := by
  by_cases hnow : withinB now 0 1000000000 = true
  · by_cases hlen : ts.length ≤ 300
    · generalize hn : ts.length = n at hm hlen
      have Hn := Lib.hid hn
      clear hn
      go_enter Try.func26, Try.ntmps26
      go_wp2_with (go_at_call 42; refine (spec_l01In _ _ _ _).mono ?_; rintro e w' ⟨rfl, rfl⟩)
      go_loopw [3] (fun i wr => ∃ k : Nat, k ≤ n ∧ i = .int .i64 k ∧ Below w.heap.size w wr ∧ Blk wr w.heap.size 26 #[.int .i64 now, .slice A n c] ∧ Hid (goodAll ts k = true)) (fun i _ => n - (intOf i).toNat)
      case atStart => exact ⟨0, Nat.zero_le _, rfl, by (repeat (first | (with_reducible exact Below.refl _ _) | (with_reducible assumption) | ((with_reducible refine Below.setCell ?_ ?_ _); rotate_left; focus (first | omega | (simp; done) | (simp; omega))) | ((with_reducible refine Below.alloc ?_ ?_ _); rotate_left; focus (first | omega | (simp; done) | (simp; omega))) | (with_reducible refine Below.drew ?_) | (with_reducible refine below_drewN ?_ _) | (refine Below.trans ?_ (Below.mono (by with_reducible assumption) (by (first | omega | (simp; done) | (simp; omega))))))), by (repeat (first | (with_reducible assumption) | ((with_reducible refine Blk.new' ?_); focus (simp; done)) | (with_reducible refine Blk.alloc ?_ _) | (with_reducible refine Blk.drew ?_) | (with_reducible refine Blk.drewN ?_ _) | ((with_reducible refine Blk.far ?_ ?_ _); rotate_left; focus (first | omega | (simp; done) | (simp; omega))) | (refine Blk.keep ?_ (by with_reducible assumption)) | (refine Blk.below ?_ (by with_reducible assumption) (by (first | omega | (simp; done) | (simp; omega)))))), rfl⟩
      case round =>
        obtain ⟨k, hk, rfl, hb, hbk, hinv⟩ := hrel
        have hc0 := hbk.cell
        by_cases hlt : k < n
        · have hlx : k < ts.length := by rw [Hn.out]; exact hlt
          obtain ⟨b, off, rfl, hab, hc1⟩ := hr.elem Timer.len (by omega) hlx hb (Nat.le_refl _)
          have HG := Lib.hid (List.getElem?_eq_getElem hlx)
          generalize ts[k]'hlx = t at hc1 HG
          have hc10 := hc1 0 (by omega)
          have hc11 := hc1 1 (by omega)
          simp only [Timer.cells, List.getElem?_cons_zero, List.getElem?_cons_succ, Nat.add_zero] at hc10 hc11
          clear hc1
          have hzr := hb.size
          have hbk2 := hbk.alloc (.cells #[.int .i64 t.At, .int .i64 t.Id] 52)
          have hbt := Blk.new wr 52 #[.int .i64 t.At, .int .i64 t.Id]
          have hbW := hb.alloc hzr (.cells #[.int .i64 t.At, .int .i64 t.Id] 52)
          have hzW := hbW.size
          have hrW : Reads (wr.alloc (.cells #[.int .i64 t.At, .int .i64 t.Id] 52)) w.heap.size (some ⟨b, off, none⟩) (ts.flatMap Timer.cells) := hr.below hbW (Nat.le_refl _)
          by_cases hA : withinB t.At 0 1000000000 = true
          · by_cases hI : withinB t.Id 1 1000000000 = true
            · have hok : timerOk t = true := by simp [timerOk, hA, hI]
              by_cases h0 : 0 < k
              · have hs1 : k - 1 < ts.length := by omega
                have HS := Lib.hid (List.getElem?_eq_getElem hs1)
                have hcp := hrW.elem_at Timer.len (by omega) hs1 (Below.refl _ _)
                generalize ts[k - 1]'hs1 = s at hcp HS
                have hd0 : decide ((0 : Int) < (k : Int)) = true := by simpa using h0
                have hcp0 := hcp 0 (by omega)
                have hcp1 := hcp 1 (by omega)
                simp only [Timer.cells, List.getElem?_cons_zero, List.getElem?_cons_succ, Nat.add_zero] at hcp0 hcp1
                clear hcp
                by_cases hah : aheadB s t = true
                · have hcmp : cmpT s t < 0 := by rw [aheadB_eq] at hah; simpa using hah
                  go_wp2
                  generalize (wr.alloc (.cells #[.int .i64 t.At, .int .i64 t.Id] 52)) = W at *
                  have q0 := hbk2.later
                  have q1 := hbt.later
                  have q2 := later_cell hcp0
                  have q3 := later_cell hcp1
                  refine wp_region_later (by kernel_rfl) (by kernel_rfl) ?_
                  repeat (first | go_big_quiet_step ((first | (go_at_call 42; first | (with_reducible exact Calls.later_same (spec_l01In_b hA _)) | (with_reducible exact Calls.later_same (spec_l01In_b hI _))) | (go_at_call 43; exact Calls.later_of (by simpa only [hah] using spec_l07Ahead s t _)))) | quiet_step ((first | (go_at_call 42; first | (with_reducible exact Calls.later_same (spec_l01In_b hA _)) | (with_reducible exact Calls.later_same (spec_l01In_b hI _))) | (go_at_call 43; exact Calls.later_of (by simpa only [hah] using spec_l07Ahead s t _)))))
                  refine wpQuiet_nil ?_
                  intro w3 hb3
                  go_wp2
                  obtain ⟨wo, hwo⟩ : ∃ wo : World, wo = w3 := ⟨_, rfl⟩
                  have hbo : Below w.heap.size w w3 := by (repeat (first | (with_reducible exact Below.refl _ _) | (with_reducible assumption) | ((with_reducible refine Below.setCell ?_ ?_ _); rotate_left; focus (first | omega | (simp; done) | (simp; omega))) | ((with_reducible refine Below.alloc ?_ ?_ _); rotate_left; focus (first | omega | (simp; done) | (simp; omega))) | (with_reducible refine Below.drew ?_) | (with_reducible refine below_drewN ?_ _) | (refine Below.trans ?_ (Below.mono (by with_reducible assumption) (by (first | omega | (simp; done) | (simp; omega)))))))
                  have hbk3 := hbk2.keep hb3
                  have hbt3 := hbt.keep hb3
                  have hz3 : wr.heap.size < w3.heap.size := hbt3.lt
                  clear hwo wo
                  go_loopw [5] (fun ji wj => ∃ j : Nat, j ≤ k ∧ ji = .int .i64 j ∧ Below w.heap.size w wj ∧ Blk wj w.heap.size 26 #[.int .i64 now, .slice (some ⟨b, off, none⟩) n c] ∧ Blk wj wr.heap.size 52 #[.int .i64 t.At, .int .i64 t.Id] ∧ Hid (∀ i (hi : i < ts.length), i < j → hasId t.Id ts[i] = false)) (fun ji _ => k - (intOf ji).toNat)
                  case atStart => exact ⟨0, Nat.zero_le _, rfl, hbo, hbk3, hbt3, fun i _ h => absurd h (by omega)⟩
                  case round =>
                    obtain ⟨j, hj, rfl, hbj, hbkj, hbtj, hinvj⟩ := hrel
                    clear hbo hbk3 hbt3 hb3
                    have hcj := hbkj.cell
                    have hctj := hbtj.cell
                    by_cases hjk : j < k
                    · have hjx : j < ts.length := by omega
                      have hel := hr.elem_at Timer.len (by omega) hjx hbj 1 (by omega)
                      have HJ := Lib.hid (List.getElem?_eq_getElem hjx)
                      generalize ts[j]'hjx = s' at hel HJ
                      simp only [Timer.cells, List.getElem?_cons_zero, List.getElem?_cons_succ, Nat.add_zero] at hel
                      by_cases heq : (s'.Id == t.Id) = true
                      · go_wp2
                        have q0 := hbkj.later
                        have q1 := hbtj.later
                        have q2 := later_cell hel
                        refine wp_region_later (by kernel_rfl) (by kernel_rfl) ?_
                        repeat (first | go_big_quiet_step ((fail)) | quiet_step ((fail)))
                        refine wpQuiet_nil ?_
                        intro w4 hb4
                        have hzj := hbj.size
                        go_wp2
                        go_ret
                        have hg := goodAll_false (by rw [Hn.out]; exact hlt) (by rw [goodB_next h0 HG.out HS.out hok hcmp]; have e1 := HJ.out; obtain ⟨x1, x2⟩ := List.getElem?_eq_some_iff.1 e1; simpa using idxB_take_some x1 hjk (by rw [x2]; exact heq))
                        exact ⟨ret_bool (by simp [clockOk, hg]), by (repeat (first | (with_reducible exact Below.refl _ _) | (with_reducible assumption) | ((with_reducible refine Below.setCell ?_ ?_ _); rotate_left; focus (first | omega | (simp; done) | (simp; omega))) | ((with_reducible refine Below.alloc ?_ ?_ _); rotate_left; focus (first | omega | (simp; done) | (simp; omega))) | (with_reducible refine Below.drew ?_) | (with_reducible refine below_drewN ?_ _) | (refine Below.trans ?_ (Below.mono (by with_reducible assumption) (by (first | omega | (simp; done) | (simp; omega)))))))⟩
                      · simp only [Bool.not_eq_true] at heq
                        go_wp2
                        have q0 := hbkj.later
                        have q1 := hbtj.later
                        have q2 := later_cell hel
                        refine wp_region_later (by kernel_rfl) (by kernel_rfl) ?_
                        repeat (first | go_big_quiet_step ((fail)) | quiet_step ((fail)))
                        refine wpQuiet_nil ?_
                        intro w4 hb4
                        have hzj := hbj.size
                        go_wp2
                        go_roundw
                        case rel =>
                          refine ⟨j + 1, by omega, by go_num, by (repeat (first | (with_reducible exact Below.refl _ _) | (with_reducible assumption) | ((with_reducible refine Below.setCell ?_ ?_ _); rotate_left; focus (first | omega | (simp; done) | (simp; omega))) | ((with_reducible refine Below.alloc ?_ ?_ _); rotate_left; focus (first | omega | (simp; done) | (simp; omega))) | (with_reducible refine Below.drew ?_) | (with_reducible refine below_drewN ?_ _) | (refine Below.trans ?_ (Below.mono (by with_reducible assumption) (by (first | omega | (simp; done) | (simp; omega))))))), hbkj.keep hb4, hbtj.keep hb4, fun i hi hij => ?_⟩
                          rcases Nat.lt_or_ge i j with h | h
                          · exact hinvj.out i hi h
                          · obtain rfl : i = j := by omega
                            have e1 := HJ.out
                            rw [List.getElem?_eq_getElem hi] at e1
                            rw [Option.some.inj e1]
                            exact heq
                        case measure => simp [intOf]; omega
                    · obtain rfl : j = k := by omega
                      have hzj := hbj.size
                      go_wp2
                      go_roundw
                      case rel => exact ⟨j + 1, by omega, by go_num, hbj, hbkj, by unfold Hid; rw [goodAll_succ, hinv.out, goodB_next h0 HG.out HS.out hok hcmp]; simpa using idxB_take_none hinvj.out⟩
                      case measure => simp [intOf]; omega
                · simp only [Bool.not_eq_true] at hah
                  have hcmp : ¬ cmpT s t < 0 := by rw [aheadB_eq] at hah; simpa using hah
                  go_wp2
                  generalize (wr.alloc (.cells #[.int .i64 t.At, .int .i64 t.Id] 52)) = W at *
                  have q0 := hbk2.later
                  have q1 := hbt.later
                  have q2 := later_cell hcp0
                  have q3 := later_cell hcp1
                  refine wp_region_later (by kernel_rfl) (by kernel_rfl) ?_
                  repeat (first | go_big_quiet_step ((first | (go_at_call 42; first | (with_reducible exact Calls.later_same (spec_l01In_b hA _)) | (with_reducible exact Calls.later_same (spec_l01In_b hI _))) | (go_at_call 43; exact Calls.later_of (by simpa only [hah] using spec_l07Ahead s t _)))) | quiet_step ((first | (go_at_call 42; first | (with_reducible exact Calls.later_same (spec_l01In_b hA _)) | (with_reducible exact Calls.later_same (spec_l01In_b hI _))) | (go_at_call 43; exact Calls.later_of (by simpa only [hah] using spec_l07Ahead s t _)))))
                  refine wpQuiet_nil ?_
                  intro w3 hb3
                  go_wp2
                  go_ret
                  have hg := goodAll_false (by rw [Hn.out]; exact hlt) (goodB_order h0 HG.out HS.out (by omega))
                  exact ⟨ret_bool (by simp [clockOk, hg]), by (repeat (first | (with_reducible exact Below.refl _ _) | (with_reducible assumption) | ((with_reducible refine Below.setCell ?_ ?_ _); rotate_left; focus (first | omega | (simp; done) | (simp; omega))) | ((with_reducible refine Below.alloc ?_ ?_ _); rotate_left; focus (first | omega | (simp; done) | (simp; omega))) | (with_reducible refine Below.drew ?_) | (with_reducible refine below_drewN ?_ _) | (refine Below.trans ?_ (Below.mono (by with_reducible assumption) (by (first | omega | (simp; done) | (simp; omega)))))))⟩
              · have hd0 : decide ((0 : Int) < (k : Int)) = false := by simpa using h0
                go_wp2
                generalize (wr.alloc (.cells #[.int .i64 t.At, .int .i64 t.Id] 52)) = W at *
                have q0 := hbk2.later
                have q1 := hbt.later
                refine wp_region_later (by kernel_rfl) (by kernel_rfl) ?_
                repeat (first | go_big_quiet_step ((go_at_call 42; first | (with_reducible exact Calls.later_same (spec_l01In_b hA _)) | (with_reducible exact Calls.later_same (spec_l01In_b hI _)))) | quiet_step ((go_at_call 42; first | (with_reducible exact Calls.later_same (spec_l01In_b hA _)) | (with_reducible exact Calls.later_same (spec_l01In_b hI _)))))
                refine wpQuiet_nil ?_
                intro w3 hb3
                go_wp2
                obtain ⟨wo, hwo⟩ : ∃ wo : World, wo = w3 := ⟨_, rfl⟩
                have hbo : Below w.heap.size w w3 := by (repeat (first | (with_reducible exact Below.refl _ _) | (with_reducible assumption) | ((with_reducible refine Below.setCell ?_ ?_ _); rotate_left; focus (first | omega | (simp; done) | (simp; omega))) | ((with_reducible refine Below.alloc ?_ ?_ _); rotate_left; focus (first | omega | (simp; done) | (simp; omega))) | (with_reducible refine Below.drew ?_) | (with_reducible refine below_drewN ?_ _) | (refine Below.trans ?_ (Below.mono (by with_reducible assumption) (by (first | omega | (simp; done) | (simp; omega)))))))
                have hbk3 := hbk2.keep hb3
                have hbt3 := hbt.keep hb3
                have hz3 : wr.heap.size < w3.heap.size := hbt3.lt
                clear hwo wo
                go_loopw [5] (fun ji wj => ∃ j : Nat, j ≤ k ∧ ji = .int .i64 j ∧ Below w.heap.size w wj ∧ Blk wj w.heap.size 26 #[.int .i64 now, .slice (some ⟨b, off, none⟩) n c] ∧ Blk wj wr.heap.size 52 #[.int .i64 t.At, .int .i64 t.Id] ∧ Hid (∀ i (hi : i < ts.length), i < j → hasId t.Id ts[i] = false)) (fun ji _ => k - (intOf ji).toNat)
                case atStart => exact ⟨0, Nat.zero_le _, rfl, hbo, hbk3, hbt3, fun i _ h => absurd h (by omega)⟩
                case round =>
                  obtain ⟨j, hj, rfl, hbj, hbkj, hbtj, hinvj⟩ := hrel
                  clear hbo hbk3 hbt3 hb3
                  have hcj := hbkj.cell
                  have hctj := hbtj.cell
                  by_cases hjk : j < k
                  · have hjx : j < ts.length := by omega
                    have hel := hr.elem_at Timer.len (by omega) hjx hbj 1 (by omega)
                    have HJ := Lib.hid (List.getElem?_eq_getElem hjx)
                    generalize ts[j]'hjx = s' at hel HJ
                    simp only [Timer.cells, List.getElem?_cons_zero, List.getElem?_cons_succ, Nat.add_zero] at hel
                    by_cases heq : (s'.Id == t.Id) = true
                    · go_wp2
                      have q0 := hbkj.later
                      have q1 := hbtj.later
                      have q2 := later_cell hel
                      refine wp_region_later (by kernel_rfl) (by kernel_rfl) ?_
                      repeat (first | go_big_quiet_step ((fail)) | quiet_step ((fail)))
                      refine wpQuiet_nil ?_
                      intro w4 hb4
                      have hzj := hbj.size
                      go_wp2
                      go_ret
                      have hg := goodAll_false (by rw [Hn.out]; exact hlt) (by rw [goodB_first (by omega) HG.out hok]; have e1 := HJ.out; obtain ⟨x1, x2⟩ := List.getElem?_eq_some_iff.1 e1; simpa using idxB_take_some x1 hjk (by rw [x2]; exact heq))
                      exact ⟨ret_bool (by simp [clockOk, hg]), by (repeat (first | (with_reducible exact Below.refl _ _) | (with_reducible assumption) | ((with_reducible refine Below.setCell ?_ ?_ _); rotate_left; focus (first | omega | (simp; done) | (simp; omega))) | ((with_reducible refine Below.alloc ?_ ?_ _); rotate_left; focus (first | omega | (simp; done) | (simp; omega))) | (with_reducible refine Below.drew ?_) | (with_reducible refine below_drewN ?_ _) | (refine Below.trans ?_ (Below.mono (by with_reducible assumption) (by (first | omega | (simp; done) | (simp; omega)))))))⟩
                    · simp only [Bool.not_eq_true] at heq
                      go_wp2
                      have q0 := hbkj.later
                      have q1 := hbtj.later
                      have q2 := later_cell hel
                      refine wp_region_later (by kernel_rfl) (by kernel_rfl) ?_
                      repeat (first | go_big_quiet_step ((fail)) | quiet_step ((fail)))
                      refine wpQuiet_nil ?_
                      intro w4 hb4
                      have hzj := hbj.size
                      go_wp2
                      go_roundw
                      case rel =>
                        refine ⟨j + 1, by omega, by go_num, by (repeat (first | (with_reducible exact Below.refl _ _) | (with_reducible assumption) | ((with_reducible refine Below.setCell ?_ ?_ _); rotate_left; focus (first | omega | (simp; done) | (simp; omega))) | ((with_reducible refine Below.alloc ?_ ?_ _); rotate_left; focus (first | omega | (simp; done) | (simp; omega))) | (with_reducible refine Below.drew ?_) | (with_reducible refine below_drewN ?_ _) | (refine Below.trans ?_ (Below.mono (by with_reducible assumption) (by (first | omega | (simp; done) | (simp; omega))))))), hbkj.keep hb4, hbtj.keep hb4, fun i hi hij => ?_⟩
                        rcases Nat.lt_or_ge i j with h | h
                        · exact hinvj.out i hi h
                        · obtain rfl : i = j := by omega
                          have e1 := HJ.out
                          rw [List.getElem?_eq_getElem hi] at e1
                          rw [Option.some.inj e1]
                          exact heq
                      case measure => simp [intOf]; omega
                  · obtain rfl : j = k := by omega
                    have hzj := hbj.size
                    go_wp2
                    go_roundw
                    case rel => exact ⟨j + 1, by omega, by go_num, hbj, hbkj, by unfold Hid; rw [goodAll_succ, hinv.out, goodB_first (by omega) HG.out hok]; simpa using idxB_take_none hinvj.out⟩
                    case measure => simp [intOf]; omega
            · simp only [Bool.not_eq_true] at hI
              have hok : timerOk t = false := by simp [timerOk, hI]
              go_wp2
              generalize (wr.alloc (.cells #[.int .i64 t.At, .int .i64 t.Id] 52)) = W at *
              have q0 := hbk2.later
              have q1 := hbt.later
              refine wp_region_later (by kernel_rfl) (by kernel_rfl) ?_
              repeat (first | go_big_quiet_step ((go_at_call 42; first | (with_reducible exact Calls.later_same (spec_l01In_b hA _)) | (with_reducible exact Calls.later_same (spec_l01In_b hI _)))) | quiet_step ((go_at_call 42; first | (with_reducible exact Calls.later_same (spec_l01In_b hA _)) | (with_reducible exact Calls.later_same (spec_l01In_b hI _)))))
              refine wpQuiet_nil ?_
              intro w3 hb3
              go_wp2
              go_ret
              have hg := goodAll_false (by rw [Hn.out]; exact hlt) (goodB_bad HG.out hok)
              exact ⟨ret_bool (by simp [clockOk, hg]), by (repeat (first | (with_reducible exact Below.refl _ _) | (with_reducible assumption) | ((with_reducible refine Below.setCell ?_ ?_ _); rotate_left; focus (first | omega | (simp; done) | (simp; omega))) | ((with_reducible refine Below.alloc ?_ ?_ _); rotate_left; focus (first | omega | (simp; done) | (simp; omega))) | (with_reducible refine Below.drew ?_) | (with_reducible refine below_drewN ?_ _) | (refine Below.trans ?_ (Below.mono (by with_reducible assumption) (by (first | omega | (simp; done) | (simp; omega)))))))⟩
          · simp only [Bool.not_eq_true] at hA
            have hok : timerOk t = false := by simp [timerOk, hA]
            go_wp2
            generalize (wr.alloc (.cells #[.int .i64 t.At, .int .i64 t.Id] 52)) = W at *
            have q0 := hbk2.later
            have q1 := hbt.later
            refine wp_region_later (by kernel_rfl) (by kernel_rfl) ?_
            repeat (first | go_big_quiet_step ((go_at_call 42; (with_reducible exact Calls.later_same (spec_l01In_b hA _)))) | quiet_step ((go_at_call 42; (with_reducible exact Calls.later_same (spec_l01In_b hA _)))))
            refine wpQuiet_nil ?_
            intro w3 hb3
            go_wp2
            go_ret
            have hg := goodAll_false (by rw [Hn.out]; exact hlt) (goodB_bad HG.out hok)
            exact ⟨ret_bool (by simp [clockOk, hg]), by (repeat (first | (with_reducible exact Below.refl _ _) | (with_reducible assumption) | ((with_reducible refine Below.setCell ?_ ?_ _); rotate_left; focus (first | omega | (simp; done) | (simp; omega))) | ((with_reducible refine Below.alloc ?_ ?_ _); rotate_left; focus (first | omega | (simp; done) | (simp; omega))) | (with_reducible refine Below.drew ?_) | (with_reducible refine below_drewN ?_ _) | (refine Below.trans ?_ (Below.mono (by with_reducible assumption) (by (first | omega | (simp; done) | (simp; omega)))))))⟩
        · obtain rfl : k = n := by omega
          go_wp2
          go_ret
          exact ⟨ret_bool (by simp [clockOk, hnow, Hn.out, hlen, hinv.out]), by (repeat (first | (with_reducible exact Below.refl _ _) | (with_reducible assumption) | ((with_reducible refine Below.setCell ?_ ?_ _); rotate_left; focus (first | omega | (simp; done) | (simp; omega))) | ((with_reducible refine Below.alloc ?_ ?_ _); rotate_left; focus (first | omega | (simp; done) | (simp; omega))) | (with_reducible refine Below.drew ?_) | (with_reducible refine below_drewN ?_ _) | (refine Below.trans ?_ (Below.mono (by with_reducible assumption) (by (first | omega | (simp; done) | (simp; omega)))))))⟩
    · have hd : decide ((300 : Int) < (ts.length : Int)) = true := by simp; omega
      go_enter Try.func26, Try.ntmps26
      go_wp2_with (go_at_call 42; refine (spec_l01In _ _ _ _).mono ?_; rintro e w' ⟨rfl, rfl⟩)
      go_ret
      exact ⟨ret_bool (by simp [clockOk, hlen]), by (repeat (first | (with_reducible exact Below.refl _ _) | (with_reducible assumption) | ((with_reducible refine Below.setCell ?_ ?_ _); rotate_left; focus (first | omega | (simp; done) | (simp; omega))) | ((with_reducible refine Below.alloc ?_ ?_ _); rotate_left; focus (first | omega | (simp; done) | (simp; omega))) | (with_reducible refine Below.drew ?_) | (with_reducible refine below_drewN ?_ _) | (refine Below.trans ?_ (Below.mono (by with_reducible assumption) (by (first | omega | (simp; done) | (simp; omega)))))))⟩
  · simp only [Bool.not_eq_true] at hnow
    go_enter Try.func26, Try.ntmps26
    go_wp2_with (go_at_call 42; refine (spec_l01In _ _ _ _).mono ?_; rintro e w' ⟨rfl, rfl⟩)
    go_ret
    exact ⟨ret_bool (by simp [clockOk, hnow]), by (repeat (first | (with_reducible exact Below.refl _ _) | (with_reducible assumption) | ((with_reducible refine Below.setCell ?_ ?_ _); rotate_left; focus (first | omega | (simp; done) | (simp; omega))) | ((with_reducible refine Below.alloc ?_ ?_ _); rotate_left; focus (first | omega | (simp; done) | (simp; omega))) | (with_reducible refine Below.drew ?_) | (with_reducible refine below_drewN ?_ _) | (refine Below.trans ?_ (Below.mono (by with_reducible assumption) (by (first | omega | (simp; done) | (simp; omega)))))))⟩
end Go.Proofs.Ythahnaigdoiddaa

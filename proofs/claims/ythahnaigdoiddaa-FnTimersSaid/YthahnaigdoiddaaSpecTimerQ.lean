/- Contracts of the reference's questions on a clock: ClockOk, NextDue, TimerAt, DueBy. -/
import Derived.Test.YthahnaigdoiddaaSpecTimer
set_option linter.unusedSimpArgs false
set_option linter.unusedVariables false
set_option maxRecDepth 20000
namespace Go.Proofs.Ythahnaigdoiddaa
open Go.RowKit
set_option maxHeartbeats 800000 in
theorem spec_TimerAt (now : Int) (A : Option Addr) (c : Nat) (ts : List Timer) (id : Int) (w : World) (hr : Reads w w.heap.size A (ts.flatMap Timer.cells)) (hm : ts.length ≤ 140737488351232) :
    Calls Try.prog 45 #[.agg #[.int .i64 now, .slice A ts.length c], .int .i64 id] w fun e w' => e = .returned (.int .i64 (timerAtF now ts id)) ∧ Below w.heap.size w w' := by
  have hok1 := spec_ClockOk now A c ts
  by_cases hok : clockOk now ts = true
  · simp only [hok] at hok1
    have HO := Lib.hid hok1
    clear hok1
    generalize hn : ts.length = n at *
    have Hn := Lib.hid hn
    clear hn
    go_enter Try.func45, Try.ntmps45
    go_wp2_with fail
    refine (HO.out _ (hr.keep (by (repeat (first | (with_reducible exact Below.refl _ _) | (with_reducible assumption) | ((with_reducible refine Below.setCell ?_ ?_ _); rotate_left; focus (first | omega | (simp; done) | (simp; omega))) | ((with_reducible refine Below.alloc ?_ ?_ _); rotate_left; focus (first | omega | (simp; done) | (simp; omega))) | (with_reducible refine Below.drew ?_) | (with_reducible refine below_drewN ?_ _) | (refine Below.trans ?_ (Below.mono (by with_reducible assumption) (by (first | omega | (simp; done) | (simp; omega)))))))) (by simp)) hm).mono ?_
    rintro e w1 ⟨rfl, hb1⟩
    have hb0 : Below w.heap.size w w1 := by (repeat (first | (with_reducible exact Below.refl _ _) | (with_reducible assumption) | ((with_reducible refine Below.setCell ?_ ?_ _); rotate_left; focus (first | omega | (simp; done) | (simp; omega))) | ((with_reducible refine Below.alloc ?_ ?_ _); rotate_left; focus (first | omega | (simp; done) | (simp; omega))) | (with_reducible refine Below.drew ?_) | (with_reducible refine below_drewN ?_ _) | (refine Below.trans ?_ (Below.mono (by with_reducible assumption) (by (first | omega | (simp; done) | (simp; omega)))))))
    have hbk0 := (Blk.new w 26 #[.int .i64 now, .slice A n c]).keep hb1
    clear hb1
    go_wp2
    go_loopw [5] (fun i wr => ∃ k : Nat, k ≤ n ∧ i = .int .i64 k ∧ Below w.heap.size w wr ∧ Blk wr w.heap.size 26 #[.int .i64 now, .slice A n c] ∧ Hid (∀ j (hj : j < ts.length), j < k → hasId id ts[j] = false)) (fun i _ => n - (intOf i).toNat)
    case atStart => exact ⟨0, Nat.zero_le _, rfl, hb0, hbk0, fun j _ h => absurd h (by omega)⟩
    case round =>
      obtain ⟨k, hk, rfl, hb, hbk, hinv⟩ := hrel
      clear hb0 hbk0
      have hc0 := hbk.cell
      by_cases hlt : k < n
      · have hlx : k < ts.length := by rw [Hn.out]; exact hlt
        obtain ⟨b, off, rfl, hab, hc1⟩ := hr.elem Timer.len (by omega) hlx hb (Nat.le_refl _)
        have HG := Lib.hid (List.getElem?_eq_getElem hlx)
        generalize ts[k]'hlx = t at hc1 HG
        have hc10 := hc1 0 (by omega)
        have hc11 := hc1 1 (by omega)
        simp only [Timer.cells, List.getElem?_cons_zero, List.getElem?_cons_succ, Nat.add_zero] at hc10 hc11
        clear hc1
        by_cases heq : (t.Id == id) = true
        · go_wp2
          go_ret
          exact ⟨ret_int (timerAtF_found hok HG.out heq hinv.out).symm, hb⟩
        · simp only [Bool.not_eq_true] at heq
          go_wp2
          go_roundw
          case rel =>
            refine ⟨k + 1, by omega, by go_num, hb, hbk, fun j hj1 hj2 => ?_⟩
            rcases Nat.lt_or_ge j k with h | h
            · exact hinv.out j hj1 h
            · obtain rfl : j = k := by omega
              have e1 := HG.out
              rw [List.getElem?_eq_getElem hj1] at e1
              rw [Option.some.inj e1]
              exact heq
          case measure => simp [intOf]; omega
      · obtain rfl : k = n := by omega
        go_wp2
        go_ret
        exact ⟨ret_int (timerAtF_none (fun j hj => hinv.out j hj (by rw [← Hn.out]; exact hj))).symm, hb⟩
  · simp only [Bool.not_eq_true] at hok
    simp only [hok] at hok1
    have HO := Lib.hid hok1
    clear hok1
    go_enter Try.func45, Try.ntmps45
    go_wp2_with fail
    refine (HO.out _ (hr.keep (by (repeat (first | (with_reducible exact Below.refl _ _) | (with_reducible assumption) | ((with_reducible refine Below.setCell ?_ ?_ _); rotate_left; focus (first | omega | (simp; done) | (simp; omega))) | ((with_reducible refine Below.alloc ?_ ?_ _); rotate_left; focus (first | omega | (simp; done) | (simp; omega))) | (with_reducible refine Below.drew ?_) | (with_reducible refine below_drewN ?_ _) | (refine Below.trans ?_ (Below.mono (by with_reducible assumption) (by (first | omega | (simp; done) | (simp; omega)))))))) (by simp)) hm).mono ?_
    rintro e w1 ⟨rfl, hb1⟩
    go_wp2
    go_ret
    exact ⟨ret_int (timerAtF_bad hok).symm, by (repeat (first | (with_reducible exact Below.refl _ _) | (with_reducible assumption) | ((with_reducible refine Below.setCell ?_ ?_ _); rotate_left; focus (first | omega | (simp; done) | (simp; omega))) | ((with_reducible refine Below.alloc ?_ ?_ _); rotate_left; focus (first | omega | (simp; done) | (simp; omega))) | (with_reducible refine Below.drew ?_) | (with_reducible refine below_drewN ?_ _) | (refine Below.trans ?_ (Below.mono (by with_reducible assumption) (by (first | omega | (simp; done) | (simp; omega)))))))⟩
end Go.Proofs.Ythahnaigdoiddaa

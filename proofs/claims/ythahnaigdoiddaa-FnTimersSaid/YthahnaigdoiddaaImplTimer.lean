/- Contracts of impl's functions on timers. -/
import Derived.Test.YthahnaigdoiddaaPureTimer
set_option linter.unusedSimpArgs false
set_option linter.unusedVariables false
set_option maxRecDepth 20000
namespace Go.Proofs.Ythahnaigdoiddaa
open Go.RowKit
theorem impl_isTimer (t : Timer) (w : World) : Calls Try.prog 34 #[.agg #[.int .i64 t.At, .int .i64 t.Id]] w fun e w' => e = .returned (.bool (timerOk t)) ∧ Below w.heap.size w w' := by
  by_cases h : withinB t.At 0 1000000000 = true
  · go_enter Try.func34, Try.ntmps34
    go_wp2_with (go_at_call 33; refine (impl_within _ _ _ _).mono ?_; rintro e w' ⟨rfl, rfl⟩)
    go_ret
    exact ⟨ret_bool (by simp [timerOk, h]), by (repeat (first | (with_reducible exact Below.refl _ _) | (with_reducible assumption) | ((with_reducible refine Below.setCell ?_ ?_ _); rotate_left; focus (first | omega | (simp; done) | (simp; omega))) | ((with_reducible refine Below.alloc ?_ ?_ _); rotate_left; focus (first | omega | (simp; done) | (simp; omega))) | (with_reducible refine Below.drew ?_) | (with_reducible refine below_drewN ?_ _) | (refine Below.trans ?_ (Below.mono (by with_reducible assumption) (by (first | omega | (simp; done) | (simp; omega)))))))⟩
  · simp only [Bool.not_eq_true] at h
    go_enter Try.func34, Try.ntmps34
    go_wp2_with (go_at_call 33; refine (impl_within _ _ _ _).mono ?_; rintro e w' ⟨rfl, rfl⟩)
    go_ret
    exact ⟨ret_bool (by simp [timerOk, h]), by (repeat (first | (with_reducible exact Below.refl _ _) | (with_reducible assumption) | ((with_reducible refine Below.setCell ?_ ?_ _); rotate_left; focus (first | omega | (simp; done) | (simp; omega))) | ((with_reducible refine Below.alloc ?_ ?_ _); rotate_left; focus (first | omega | (simp; done) | (simp; omega))) | (with_reducible refine Below.drew ?_) | (with_reducible refine below_drewN ?_ _) | (refine Below.trans ?_ (Below.mono (by with_reducible assumption) (by (first | omega | (simp; done) | (simp; omega)))))))⟩
set_option maxHeartbeats 800000 in
theorem impl_compareTimers (s t : Timer) (w : World) : Calls Try.prog 35 #[.agg #[.int .i64 s.At, .int .i64 s.Id], .agg #[.int .i64 t.At, .int .i64 t.Id]] w fun e w' => e = .returned (.int .i64 (cmpT s t)) ∧ Below w.heap.size w w' := by
  go_enter Try.func35, Try.ntmps35
  go_wp2
  go_region_held3 (fun w' => w'.cell? ⟨w.heap.size, 0, none⟩ = some (.int .i64 s.At) ∧ w'.cell? ⟨w.heap.size, 1, none⟩ = some (.int .i64 s.Id) ∧ w'.cell? ⟨w.heap.size + 1, 0, none⟩ = some (.int .i64 t.At) ∧ w'.cell? ⟨w.heap.size + 1, 1, none⟩ = some (.int .i64 t.Id))
    (first | (refine ⟨Blk.cell (t := 52) (cs := #[.int .i64 s.At, .int .i64 s.Id]) ?_ 0, Blk.cell (t := 52) (cs := #[.int .i64 s.At, .int .i64 s.Id]) ?_ 1, Blk.cell (t := 52) (cs := #[.int .i64 t.At, .int .i64 t.Id]) ?_ 0, Blk.cell (t := 52) (cs := #[.int .i64 t.At, .int .i64 t.Id]) ?_ 1⟩ <;> (repeat (first | (with_reducible assumption) | ((with_reducible refine Blk.new' ?_); focus (simp; done)) | (with_reducible refine Blk.alloc ?_ _) | (with_reducible refine Blk.drew ?_) | (with_reducible refine Blk.drewN ?_ _) | ((with_reducible refine Blk.far ?_ ?_ _); rotate_left; focus (first | omega | (simp; done) | (simp; omega))) | (refine Blk.keep ?_ (by with_reducible assumption)) | (refine Blk.below ?_ (by with_reducible assumption) (by (first | omega | (simp; done) | (simp; omega))))))))
    (first
    | (go_at_call 47; refine (cmp_Compare _ _ _).mono ?_; rintro e w2 ⟨rfl, rfl⟩)
    | (go_at_call 46; ((with_reducible refine (cmp_Or2 _ _ (cmpI s.At t.At) (cmpI s.Id t.Id) _ ?_).mono ?_); (focus (exact Reads.of_blk (t := 3) (cs := #[.int .i64 (cmpI s.At t.At), .int .i64 (cmpI s.Id t.Id)]) (by (repeat (first | (with_reducible assumption) | ((with_reducible refine Blk.new' ?_); focus (simp; done)) | (with_reducible refine Blk.alloc ?_ _) | (with_reducible refine Blk.drew ?_) | (with_reducible refine Blk.drewN ?_ _) | ((with_reducible refine Blk.far ?_ ?_ _); rotate_left; focus (first | omega | (simp; done) | (simp; omega))) | (refine Blk.keep ?_ (by with_reducible assumption)) | (refine Blk.below ?_ (by with_reducible assumption) (by (first | omega | (simp; done) | (simp; omega))))))))); rintro e w2 ⟨rfl, rfl⟩)))
  go_wp2
  go_ret
  exact ⟨rfl, by (repeat (first | (with_reducible exact Below.refl _ _) | (with_reducible assumption) | ((with_reducible refine Below.setCell ?_ ?_ _); rotate_left; focus (first | omega | (simp; done) | (simp; omega))) | ((with_reducible refine Below.alloc ?_ ?_ _); rotate_left; focus (first | omega | (simp; done) | (simp; omega))) | (with_reducible refine Below.drew ?_) | (with_reducible refine below_drewN ?_ _) | (refine Below.trans ?_ (Below.mono (by with_reducible assumption) (by (first | omega | (simp; done) | (simp; omega)))))))⟩
theorem impl_timerIndex_1 (t : Timer) (id : Int) (p : Addr) (w : World) (hc : w.cell? p = some (.int .i64 id)) : Calls Try.prog 41 #[.agg #[.int .i64 t.At, .int .i64 t.Id], .pointer (some p)] w fun e w' => e = .returned (.bool (hasId id t)) ∧ Below w.heap.size w w' := by
  have hlt := World.block_lt_of_cell? w p hc
  have hc' : (w.alloc (.cells #[.int .i64 t.At, .int .i64 t.Id] 52)).cell? p = some (.int .i64 id) := by rw [World.cell?_alloc_lt _ _ _ hlt]; exact hc
  go_enter Try.func41, Try.ntmps41
  go_wp2
  go_ret
  exact ⟨rfl, by (repeat (first | (with_reducible exact Below.refl _ _) | (with_reducible assumption) | ((with_reducible refine Below.setCell ?_ ?_ _); rotate_left; focus (first | omega | (simp; done) | (simp; omega))) | ((with_reducible refine Below.alloc ?_ ?_ _); rotate_left; focus (first | omega | (simp; done) | (simp; omega))) | (with_reducible refine Below.drew ?_) | (with_reducible refine below_drewN ?_ _) | (refine Below.trans ?_ (Below.mono (by with_reducible assumption) (by (first | omega | (simp; done) | (simp; omega)))))))⟩
set_option maxHeartbeats 800000 in
theorem slices_IndexFunc_Timer (A : Option Addr) (c : Nat) (ts : List Timer) (id : Int) (p : Addr) (w : World) (hr : Reads w w.heap.size A (ts.flatMap Timer.cells)) (hc : w.cell? p = some (.int .i64 id)) (hm : ts.length ≤ 140737488351232) :
    Calls Try.prog 40 #[.slice A ts.length c, .func (.func 41) #[] #[.pointer (some p)]] w fun e w' => e = .returned (.int .i64 (idxB (hasId id) ts)) ∧ Below w.heap.size w w' := by
  have hlp := World.block_lt_of_cell? w p hc
  generalize hn : ts.length = n at hm
  have Hn := Lib.hid hn
  clear hn
  go_enter Try.func40, Try.ntmps40
  go_wp2
  go_loopw [8] (fun i wr => ∃ k : Nat, k ≤ n ∧ i = .int .i64 k ∧ Below w.heap.size w wr ∧ Hid (∀ j (hj : j < ts.length), j < k → hasId id ts[j] = false)) (fun i _ => n - (intOf i).toNat)
  case atStart => exact ⟨0, Nat.zero_le _, rfl, Below.refl _ _, fun j _ h => absurd h (by omega)⟩
  case round =>
    obtain ⟨k, hk, rfl, hb, hinv⟩ := hrel
    by_cases hlt : k < n
    · have hlx : k < ts.length := by rw [Hn.out]; exact hlt
      obtain ⟨b, off, rfl, hab, hc1⟩ := hr.elem Timer.len (by omega) hlx hb (Nat.le_refl _)
      have HP := Lib.hid (rfl : hasId id (ts[k]'hlx) = hasId id (ts[k]'hlx))
      have HG := Lib.hid (List.getElem?_eq_getElem hlx)
      generalize ts[k]'hlx = t at hc1 HP HG
      have hc10 := hc1 0 (by omega)
      have hc11 := hc1 1 (by omega)
      simp only [Timer.cells, List.getElem?_cons_zero, List.getElem?_cons_succ, Nat.add_zero] at hc10 hc11
      clear hc1
      have hcp : wr.cell? p = some (.int .i64 id) := (hb.cell hlp).trans hc
      go_wp2_with fail
      refine (impl_timerIndex_1 t id p _ hcp).mono ?_
      rintro e w2 ⟨rfl, hb2⟩
      have hzr := hb.size
      go_wp2
      · have hT : hasId id t = true := by assumption
        go_ret
        refine ⟨ret_int ?_, by (repeat (first | (with_reducible exact Below.refl _ _) | (with_reducible assumption) | ((with_reducible refine Below.setCell ?_ ?_ _); rotate_left; focus (first | omega | (simp; done) | (simp; omega))) | ((with_reducible refine Below.alloc ?_ ?_ _); rotate_left; focus (first | omega | (simp; done) | (simp; omega))) | (with_reducible refine Below.drew ?_) | (with_reducible refine below_drewN ?_ _) | (refine Below.trans ?_ (Below.mono (by with_reducible assumption) (by (first | omega | (simp; done) | (simp; omega)))))))⟩
        have e1 := HG.out
        obtain ⟨h1, h2⟩ := List.getElem?_eq_some_iff.1 e1
        exact (idxB_found h1 (fun j hj => hinv.out j (by omega) hj) (by rw [h2]; exact hT)).symm
      · have hT : hasId id t = false := by assumption
        go_roundw
        case rel =>
          refine ⟨k + 1, by omega, by go_num, by (repeat (first | (with_reducible exact Below.refl _ _) | (with_reducible assumption) | ((with_reducible refine Below.setCell ?_ ?_ _); rotate_left; focus (first | omega | (simp; done) | (simp; omega))) | ((with_reducible refine Below.alloc ?_ ?_ _); rotate_left; focus (first | omega | (simp; done) | (simp; omega))) | (with_reducible refine Below.drew ?_) | (with_reducible refine below_drewN ?_ _) | (refine Below.trans ?_ (Below.mono (by with_reducible assumption) (by (first | omega | (simp; done) | (simp; omega))))))), fun j hj1 hj2 => ?_⟩
          rcases Nat.lt_or_ge j k with h | h
          · exact hinv.out j hj1 h
          · obtain rfl : j = k := by omega
            have e1 := HG.out
            rw [List.getElem?_eq_getElem hj1] at e1
            rw [Option.some.inj e1]
            exact hT
        case measure => simp [intOf]; omega
    · obtain rfl : k = n := by omega
      go_wp2
      go_ret
      exact ⟨ret_int (idxB_none (fun j hj => hinv.out j hj (by rw [← Hn.out]; exact hj))).symm, hb⟩
set_option maxHeartbeats 800000 in
theorem impl_timerIndex (now : Int) (A : Option Addr) (c : Nat) (ts : List Timer) (id : Int) (w : World) (hr : Reads w w.heap.size A (ts.flatMap Timer.cells)) (hm : ts.length ≤ 140737488351232) :
    Calls Try.prog 22 #[.agg #[.int .i64 now, .slice A ts.length c], .int .i64 id] w fun e w' => e = .returned (.int .i64 (idxB (hasId id) ts)) ∧ Below w.heap.size w w' := by
  go_enter Try.func22, Try.ntmps22
  go_wp2_with fail
  refine (slices_IndexFunc_Timer _ _ _ id _ _ (hr.keep (by (repeat (first | (with_reducible exact Below.refl _ _) | (with_reducible assumption) | ((with_reducible refine Below.setCell ?_ ?_ _); rotate_left; focus (first | omega | (simp; done) | (simp; omega))) | ((with_reducible refine Below.alloc ?_ ?_ _); rotate_left; focus (first | omega | (simp; done) | (simp; omega))) | (with_reducible refine Below.drew ?_) | (with_reducible refine below_drewN ?_ _) | (refine Below.trans ?_ (Below.mono (by with_reducible assumption) (by (first | omega | (simp; done) | (simp; omega)))))))) (by simp; omega)) (by simp) hm).mono ?_
  rintro e w2 ⟨rfl, hb2⟩
  go_wp2
  go_ret
  exact ⟨rfl, by (repeat (first | (with_reducible exact Below.refl _ _) | (with_reducible assumption) | ((with_reducible refine Below.setCell ?_ ?_ _); rotate_left; focus (first | omega | (simp; done) | (simp; omega))) | ((with_reducible refine Below.alloc ?_ ?_ _); rotate_left; focus (first | omega | (simp; done) | (simp; omega))) | (with_reducible refine Below.drew ?_) | (with_reducible refine below_drewN ?_ _) | (refine Below.trans ?_ (Below.mono (by with_reducible assumption) (by (first | omega | (simp; done) | (simp; omega)))))))⟩
end Go.Proofs.Ythahnaigdoiddaa

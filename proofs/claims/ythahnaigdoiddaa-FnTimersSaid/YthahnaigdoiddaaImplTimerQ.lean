/- Contracts of impl's questions on a clock: ClockOk, NextDue, TimerAt, DueBy. -/
import Derived.Test.YthahnaigdoiddaaImplClock
set_option linter.unusedSimpArgs false
set_option linter.unusedVariables false
set_option maxRecDepth 20000
namespace Go.Proofs.Ythahnaigdoiddaa
open Go.RowKit
set_option maxHeartbeats 800000 in
theorem impl_NextDue (now : Int) (A : Option Addr) (c : Nat) (ts : List Timer) (w : World) (hr : Reads w w.heap.size A (ts.flatMap Timer.cells)) (hm : ts.length ≤ 140737488351232) (hcap : ts.length ≤ c) :
    Calls Try.prog 11 #[.agg #[.int .i64 now, .slice A ts.length c]] w fun e w' => e = .returned (.int .i64 (nextDueF now ts)) ∧ Below w.heap.size w w' := by
  by_cases hok : clockOk now ts = true
  · cases ts with
    | nil =>
      go_enter Try.func11, Try.ntmps11
      go_wp2_with fail
      refine (impl_isClock now A c [] _ (hr.keep (by (repeat (first | (with_reducible exact Below.refl _ _) | (with_reducible assumption) | ((with_reducible refine Below.setCell ?_ ?_ _); rotate_left; focus (first | omega | (simp; done) | (simp; omega))) | ((with_reducible refine Below.alloc ?_ ?_ _); rotate_left; focus (first | omega | (simp; done) | (simp; omega))) | (with_reducible refine Below.drew ?_) | (with_reducible refine below_drewN ?_ _) | (refine Below.trans ?_ (Below.mono (by with_reducible assumption) (by (first | omega | (simp; done) | (simp; omega)))))))) (by simp)) hm hcap).mono ?_
      simp only [hok]
      rintro e w1 ⟨rfl, hb1⟩
      have BK0 := (Blk.new w _ _).keep hb1; have hc0 := BK0.cell; have hf0 := BK0.frozen
      go_wp2
      go_ret
      exact ⟨ret_int (by simp [nextDueF]), by (repeat (first | (with_reducible exact Below.refl _ _) | (with_reducible assumption) | ((with_reducible refine Below.setCell ?_ ?_ _); rotate_left; focus (first | omega | (simp; done) | (simp; omega))) | ((with_reducible refine Below.alloc ?_ ?_ _); rotate_left; focus (first | omega | (simp; done) | (simp; omega))) | (with_reducible refine Below.drew ?_) | (with_reducible refine below_drewN ?_ _) | (refine Below.trans ?_ (Below.mono (by with_reducible assumption) (by (first | omega | (simp; done) | (simp; omega)))))))⟩
    | cons t r =>
      have hne : (((t :: r).length : Int) == 0) = false := by simp; omega
      have hpos : (0 : Int) < ((t :: r).length : Int) := by simp
      obtain ⟨b, off, rfl, hab, hc1⟩ := hr.elem Timer.len (by omega) (k := 0) (by simp) (Below.refl w.heap.size w) (Nat.le_refl _)
      have h0 := hc1 0 (by omega)
      simp only [Timer.cells, List.getElem?_cons_zero, List.getElem_cons_zero, Nat.add_zero, Nat.zero_mul] at h0
      have hfin : nextDueF now (t :: r) = t.At := by simp [nextDueF, hok]
      have HF := Lib.hid hfin
      clear hfin hc1
      have hok1 := impl_isClock now (some ⟨b, off, none⟩) c (t :: r)
      simp only [hok] at hok1
      have HO := Lib.hid hok1
      clear hok1
      generalize (t :: r).length = n at *
      go_enter Try.func11, Try.ntmps11
      go_wp2_with fail
      refine (HO.out _ (hr.keep (by (repeat (first | (with_reducible exact Below.refl _ _) | (with_reducible assumption) | ((with_reducible refine Below.setCell ?_ ?_ _); rotate_left; focus (first | omega | (simp; done) | (simp; omega))) | ((with_reducible refine Below.alloc ?_ ?_ _); rotate_left; focus (first | omega | (simp; done) | (simp; omega))) | (with_reducible refine Below.drew ?_) | (with_reducible refine below_drewN ?_ _) | (refine Below.trans ?_ (Below.mono (by with_reducible assumption) (by (first | omega | (simp; done) | (simp; omega)))))))) (by simp)) hm hcap).mono ?_
      rintro e w1 ⟨rfl, hb1⟩
      have BK0 := (Blk.new w _ _).keep hb1; have hc0 := BK0.cell; have hf0 := BK0.frozen
      have h1 : w1.cell? ⟨b, off, none⟩ = some (.int .i64 t.At) := by rw [hb1.cell (by simp; omega), World.cell?_alloc_lt _ _ _ hab]; exact h0
      go_wp2
      go_ret
      exact ⟨ret_int HF.out.symm, by (repeat (first | (with_reducible exact Below.refl _ _) | (with_reducible assumption) | ((with_reducible refine Below.setCell ?_ ?_ _); rotate_left; focus (first | omega | (simp; done) | (simp; omega))) | ((with_reducible refine Below.alloc ?_ ?_ _); rotate_left; focus (first | omega | (simp; done) | (simp; omega))) | (with_reducible refine Below.drew ?_) | (with_reducible refine below_drewN ?_ _) | (refine Below.trans ?_ (Below.mono (by with_reducible assumption) (by (first | omega | (simp; done) | (simp; omega)))))))⟩
  · simp only [Bool.not_eq_true] at hok
    have hok1 := impl_isClock now A c ts
    simp only [hok] at hok1
    have HO := Lib.hid hok1
    clear hok1
    go_enter Try.func11, Try.ntmps11
    go_wp2_with fail
    refine (HO.out _ (hr.keep (by (repeat (first | (with_reducible exact Below.refl _ _) | (with_reducible assumption) | ((with_reducible refine Below.setCell ?_ ?_ _); rotate_left; focus (first | omega | (simp; done) | (simp; omega))) | ((with_reducible refine Below.alloc ?_ ?_ _); rotate_left; focus (first | omega | (simp; done) | (simp; omega))) | (with_reducible refine Below.drew ?_) | (with_reducible refine below_drewN ?_ _) | (refine Below.trans ?_ (Below.mono (by with_reducible assumption) (by (first | omega | (simp; done) | (simp; omega)))))))) (by simp)) hm hcap).mono ?_
    rintro e w1 ⟨rfl, hb1⟩
    go_wp2
    go_ret
    exact ⟨ret_int (by simp [nextDueF, hok]), by (repeat (first | (with_reducible exact Below.refl _ _) | (with_reducible assumption) | ((with_reducible refine Below.setCell ?_ ?_ _); rotate_left; focus (first | omega | (simp; done) | (simp; omega))) | ((with_reducible refine Below.alloc ?_ ?_ _); rotate_left; focus (first | omega | (simp; done) | (simp; omega))) | (with_reducible refine Below.drew ?_) | (with_reducible refine below_drewN ?_ _) | (refine Below.trans ?_ (Below.mono (by with_reducible assumption) (by (first | omega | (simp; done) | (simp; omega)))))))⟩
set_option maxHeartbeats 800000 in
theorem impl_DueBy (now : Int) (A : Option Addr) (c : Nat) (ts : List Timer) (x : Int) (w : World) (hr : Reads w w.heap.size A (ts.flatMap Timer.cells)) (hm : ts.length ≤ 140737488351232) (hcap : ts.length ≤ c) :
    Calls Try.prog 9 #[.agg #[.int .i64 now, .slice A ts.length c], .int .i64 x] w fun e w' => e = .returned (.int .i64 (dueByF now ts x)) ∧ Below w.heap.size w w' := by
  have hok1 := impl_isClock now A c ts
  by_cases hok : clockOk now ts = true
  · simp only [hok] at hok1
    have HO := Lib.hid hok1
    clear hok1
    generalize hn : ts.length = n at *
    have Hn := Lib.hid hn
    clear hn
    go_enter Try.func9, Try.ntmps9
    go_wp2_with fail
    refine (HO.out _ (hr.keep (by (repeat (first | (with_reducible exact Below.refl _ _) | (with_reducible assumption) | ((with_reducible refine Below.setCell ?_ ?_ _); rotate_left; focus (first | omega | (simp; done) | (simp; omega))) | ((with_reducible refine Below.alloc ?_ ?_ _); rotate_left; focus (first | omega | (simp; done) | (simp; omega))) | (with_reducible refine Below.drew ?_) | (with_reducible refine below_drewN ?_ _) | (refine Below.trans ?_ (Below.mono (by with_reducible assumption) (by (first | omega | (simp; done) | (simp; omega)))))))) (by simp)) hm hcap).mono ?_
    rintro e w1 ⟨rfl, hb1⟩
    have hb0 : Below w.heap.size w w1 := by (repeat (first | (with_reducible exact Below.refl _ _) | (with_reducible assumption) | ((with_reducible refine Below.setCell ?_ ?_ _); rotate_left; focus (first | omega | (simp; done) | (simp; omega))) | ((with_reducible refine Below.alloc ?_ ?_ _); rotate_left; focus (first | omega | (simp; done) | (simp; omega))) | (with_reducible refine Below.drew ?_) | (with_reducible refine below_drewN ?_ _) | (refine Below.trans ?_ (Below.mono (by with_reducible assumption) (by (first | omega | (simp; done) | (simp; omega)))))))
    have hbk0 := (Blk.new w 26 #[.int .i64 now, .slice A n c]).keep hb1
    have hc00 := hbk0.cell
    clear hb1
    go_wp2
    clear hc00
    go_loopw [5, 14] (fun cnt i wr => ∃ k : Nat, k ≤ n ∧ i = .int .i64 k ∧ cnt = .int .i64 (countDue (ts.take k) x : Nat) ∧ Below w.heap.size w wr ∧ Blk wr w.heap.size 26 #[.int .i64 now, .slice A n c]) (fun _ i _ => n - (intOf i).toNat)
    case atStart => exact ⟨0, Nat.zero_le _, rfl, rfl, hb0, hbk0⟩
    case round =>
      obtain ⟨k, hk, rfl, rfl, hb, hbk⟩ := hrel
      clear hb0 hbk0
      have hc0 := hbk.cell
      have hle := countDue_le (ts.take k) x
      rw [List.length_take] at hle
      by_cases hlt : k < n
      · have hlx : k < ts.length := by rw [Hn.out]; exact hlt
        obtain ⟨b, off, rfl, hab, hc1⟩ := hr.elem Timer.len (by omega) hlx hb (Nat.le_refl _)
        have HG := Lib.hid (countDue_succ (List.getElem?_eq_getElem hlx) x)
        generalize ts[k]'hlx = t at hc1 HG
        have hc10 := hc1 0 (by omega)
        have hc11 := hc1 1 (by omega)
        simp only [Timer.cells, List.getElem?_cons_zero, List.getElem?_cons_succ, Nat.add_zero] at hc10 hc11
        clear hc1
        have hzr := hb.size
        have hcb : countDue (ts.take k) x ≤ k := by omega
        generalize countDue (ts.take k) x = q at *
        go_wp2
        · have hd : t.At ≤ x := by assumption
          go_roundw
          case rel => exact ⟨k + 1, by omega, by go_num, by rw [HG.out, if_pos hd]; go_num, by (repeat (first | (with_reducible exact Below.refl _ _) | (with_reducible assumption) | ((with_reducible refine Below.setCell ?_ ?_ _); rotate_left; focus (first | omega | (simp; done) | (simp; omega))) | ((with_reducible refine Below.alloc ?_ ?_ _); rotate_left; focus (first | omega | (simp; done) | (simp; omega))) | (with_reducible refine Below.drew ?_) | (with_reducible refine below_drewN ?_ _) | (refine Below.trans ?_ (Below.mono (by with_reducible assumption) (by (first | omega | (simp; done) | (simp; omega))))))), by (repeat (first | (with_reducible assumption) | ((with_reducible refine Blk.new' ?_); focus (simp; done)) | (with_reducible refine Blk.alloc ?_ _) | (with_reducible refine Blk.drew ?_) | (with_reducible refine Blk.drewN ?_ _) | ((with_reducible refine Blk.far ?_ ?_ _); rotate_left; focus (first | omega | (simp; done) | (simp; omega))) | (refine Blk.keep ?_ (by with_reducible assumption)) | (refine Blk.below ?_ (by with_reducible assumption) (by (first | omega | (simp; done) | (simp; omega))))))⟩
          case measure => simp [intOf]; omega
        · have hd : ¬ t.At ≤ x := by omega
          go_roundw
          case rel => exact ⟨k + 1, by omega, by go_num, by rw [HG.out, if_neg hd]; rfl, by (repeat (first | (with_reducible exact Below.refl _ _) | (with_reducible assumption) | ((with_reducible refine Below.setCell ?_ ?_ _); rotate_left; focus (first | omega | (simp; done) | (simp; omega))) | ((with_reducible refine Below.alloc ?_ ?_ _); rotate_left; focus (first | omega | (simp; done) | (simp; omega))) | (with_reducible refine Below.drew ?_) | (with_reducible refine below_drewN ?_ _) | (refine Below.trans ?_ (Below.mono (by with_reducible assumption) (by (first | omega | (simp; done) | (simp; omega))))))), by (repeat (first | (with_reducible assumption) | ((with_reducible refine Blk.new' ?_); focus (simp; done)) | (with_reducible refine Blk.alloc ?_ _) | (with_reducible refine Blk.drew ?_) | (with_reducible refine Blk.drewN ?_ _) | ((with_reducible refine Blk.far ?_ ?_ _); rotate_left; focus (first | omega | (simp; done) | (simp; omega))) | (refine Blk.keep ?_ (by with_reducible assumption)) | (refine Blk.below ?_ (by with_reducible assumption) (by (first | omega | (simp; done) | (simp; omega))))))⟩
          case measure => simp [intOf]; omega
      · obtain rfl : k = n := by omega
        go_wp2
        go_ret
        exact ⟨ret_int (by rw [List.take_of_length_le (by rw [Hn.out]; exact Nat.le_refl _)]; simp [dueByF, hok]), hb⟩
  · simp only [Bool.not_eq_true] at hok
    simp only [hok] at hok1
    have HO := Lib.hid hok1
    clear hok1
    go_enter Try.func9, Try.ntmps9
    go_wp2_with fail
    refine (HO.out _ (hr.keep (by (repeat (first | (with_reducible exact Below.refl _ _) | (with_reducible assumption) | ((with_reducible refine Below.setCell ?_ ?_ _); rotate_left; focus (first | omega | (simp; done) | (simp; omega))) | ((with_reducible refine Below.alloc ?_ ?_ _); rotate_left; focus (first | omega | (simp; done) | (simp; omega))) | (with_reducible refine Below.drew ?_) | (with_reducible refine below_drewN ?_ _) | (refine Below.trans ?_ (Below.mono (by with_reducible assumption) (by (first | omega | (simp; done) | (simp; omega)))))))) (by simp)) hm hcap).mono ?_
    rintro e w1 ⟨rfl, hb1⟩
    go_wp2
    go_ret
    exact ⟨ret_int (by simp [dueByF, hok]), by (repeat (first | (with_reducible exact Below.refl _ _) | (with_reducible assumption) | ((with_reducible refine Below.setCell ?_ ?_ _); rotate_left; focus (first | omega | (simp; done) | (simp; omega))) | ((with_reducible refine Below.alloc ?_ ?_ _); rotate_left; focus (first | omega | (simp; done) | (simp; omega))) | (with_reducible refine Below.drew ?_) | (with_reducible refine below_drewN ?_ _) | (refine Below.trans ?_ (Below.mono (by with_reducible assumption) (by (first | omega | (simp; done) | (simp; omega)))))))⟩
theorem idxB_get {ts : List Timer} {id : Int} (h : ¬ idxB (hasId id) ts < 0) : ∃ k t, idxB (hasId id) ts = (k : Nat) ∧ ts[k]? = some t ∧ hasId id t = true ∧ ∀ j (hj : j < ts.length), j < k → hasId id ts[j] = false := by
  unfold idxB at *
  cases hf : ts.findIdx? (hasId id) with
  | none => rw [hf] at h; simp at h
  | some k =>
    obtain ⟨h1, h2, h3⟩ := List.findIdx?_eq_some_iff_getElem.1 hf
    exact ⟨k, ts[k], rfl, List.getElem?_eq_getElem h1, h2, fun j hj hjk => by simpa using h3 j hjk⟩
theorem idxB_negQ {ts : List Timer} {id : Int} (h : idxB (hasId id) ts < 0) : ∀ j (hj : j < ts.length), hasId id ts[j] = false := by
  unfold idxB at *
  cases hf : ts.findIdx? (hasId id) with
  | none => exact fun j hj => by simpa using List.findIdx?_eq_none_iff.1 hf ts[j] (List.getElem_mem hj)
  | some k => rw [hf] at h; simp at h; omega
set_option maxHeartbeats 800000 in
theorem impl_TimerAt (now : Int) (A : Option Addr) (c : Nat) (ts : List Timer) (id : Int) (w : World) (hr : Reads w w.heap.size A (ts.flatMap Timer.cells)) (hm : ts.length ≤ 140737488351232) (hcap : ts.length ≤ c) :
    Calls Try.prog 7 #[.agg #[.int .i64 now, .slice A ts.length c], .int .i64 id] w fun e w' => e = .returned (.int .i64 (timerAtF now ts id)) ∧ Below w.heap.size w w' := by
  have hok1 := impl_isClock now A c ts
  by_cases hok : clockOk now ts = true
  · simp only [hok] at hok1
    have HO := Lib.hid hok1
    clear hok1
    by_cases hx : idxB (hasId id) ts < 0
    · have hd : decide (idxB (hasId id) ts < 0) = true := by simpa using hx
      have hfin := Lib.hid (timerAtF_none (now := now) (idxB_negQ hx))
      go_enter Try.func7, Try.ntmps7
      go_wp2_with fail
      refine (impl_timerIndex now A c ts id _ (hr.keep (by (repeat (first | (with_reducible exact Below.refl _ _) | (with_reducible assumption) | ((with_reducible refine Below.setCell ?_ ?_ _); rotate_left; focus (first | omega | (simp; done) | (simp; omega))) | ((with_reducible refine Below.alloc ?_ ?_ _); rotate_left; focus (first | omega | (simp; done) | (simp; omega))) | (with_reducible refine Below.drew ?_) | (with_reducible refine below_drewN ?_ _) | (refine Below.trans ?_ (Below.mono (by with_reducible assumption) (by (first | omega | (simp; done) | (simp; omega)))))))) (by simp)) hm).mono ?_
      rintro e w1 ⟨rfl, hb1⟩
      have hz1 := hb1.size
      have BK0 := (Blk.new w _ _).keep hb1; have hc0 := BK0.cell; have hf0 := BK0.frozen
      go_wp2_with fail
      refine (HO.out _ (hr.keep (by (repeat (first | (with_reducible exact Below.refl _ _) | (with_reducible assumption) | ((with_reducible refine Below.setCell ?_ ?_ _); rotate_left; focus (first | omega | (simp; done) | (simp; omega))) | ((with_reducible refine Below.alloc ?_ ?_ _); rotate_left; focus (first | omega | (simp; done) | (simp; omega))) | (with_reducible refine Below.drew ?_) | (with_reducible refine below_drewN ?_ _) | (refine Below.trans ?_ (Below.mono (by with_reducible assumption) (by (first | omega | (simp; done) | (simp; omega)))))))) (by simp at hz1; omega)) hm hcap).mono ?_
      rintro e w2 ⟨rfl, hb2⟩
      go_wp2
      go_ret
      simp at hz1
      exact ⟨ret_int hfin.out.symm, by (repeat (first | (with_reducible exact Below.refl _ _) | (with_reducible assumption) | ((with_reducible refine Below.setCell ?_ ?_ _); rotate_left; focus (first | omega | (simp; done) | (simp; omega))) | ((with_reducible refine Below.alloc ?_ ?_ _); rotate_left; focus (first | omega | (simp; done) | (simp; omega))) | (with_reducible refine Below.drew ?_) | (with_reducible refine below_drewN ?_ _) | (refine Below.trans ?_ (Below.mono (by with_reducible assumption) (by (first | omega | (simp; done) | (simp; omega)))))))⟩
    · obtain ⟨k, t, e1, e2, e3, e4⟩ := idxB_get hx
      have hfin := Lib.hid (timerAtF_found hok e2 e3 e4)
      obtain ⟨hk, et⟩ := List.getElem?_eq_some_iff.1 e2
      obtain ⟨b, off, rfl, hab, hc1⟩ := hr.elem Timer.len (by omega) hk (Below.refl w.heap.size w) (Nat.le_refl _)
      rw [et] at hc1
      have h0 := hc1 0 (by omega)
      simp only [Timer.cells, List.getElem?_cons_zero, Nat.add_zero] at h0
      have hti := impl_timerIndex now (some ⟨b, off, none⟩) c ts id
      simp only [e1] at hti
      have HT := Lib.hid hti
      clear hti e1 e2 e3 e4 et hc1 hx
      generalize ts.length = n at *
      go_enter Try.func7, Try.ntmps7
      go_wp2_with fail
      refine (HT.out _ (hr.keep (by (repeat (first | (with_reducible exact Below.refl _ _) | (with_reducible assumption) | ((with_reducible refine Below.setCell ?_ ?_ _); rotate_left; focus (first | omega | (simp; done) | (simp; omega))) | ((with_reducible refine Below.alloc ?_ ?_ _); rotate_left; focus (first | omega | (simp; done) | (simp; omega))) | (with_reducible refine Below.drew ?_) | (with_reducible refine below_drewN ?_ _) | (refine Below.trans ?_ (Below.mono (by with_reducible assumption) (by (first | omega | (simp; done) | (simp; omega)))))))) (by simp)) hm).mono ?_
      rintro e w1 ⟨rfl, hb1⟩
      have hz1 := hb1.size
      simp at hz1
      have BK0 := (Blk.new w _ _).keep hb1; have hc0 := BK0.cell; have hf0 := BK0.frozen
      go_wp2_with fail
      refine (HO.out _ (hr.keep (by (repeat (first | (with_reducible exact Below.refl _ _) | (with_reducible assumption) | ((with_reducible refine Below.setCell ?_ ?_ _); rotate_left; focus (first | omega | (simp; done) | (simp; omega))) | ((with_reducible refine Below.alloc ?_ ?_ _); rotate_left; focus (first | omega | (simp; done) | (simp; omega))) | (with_reducible refine Below.drew ?_) | (with_reducible refine below_drewN ?_ _) | (refine Below.trans ?_ (Below.mono (by with_reducible assumption) (by (first | omega | (simp; done) | (simp; omega)))))))) (by omega)) hm hcap).mono ?_
      rintro e w2 ⟨rfl, hb2⟩
      replace BK0 := BK0.keep hb2; replace hc0 := BK0.cell; replace hf0 := BK0.frozen
      have hbw : Below w.heap.size w w2 := by (repeat (first | (with_reducible exact Below.refl _ _) | (with_reducible assumption) | ((with_reducible refine Below.setCell ?_ ?_ _); rotate_left; focus (first | omega | (simp; done) | (simp; omega))) | ((with_reducible refine Below.alloc ?_ ?_ _); rotate_left; focus (first | omega | (simp; done) | (simp; omega))) | (with_reducible refine Below.drew ?_) | (with_reducible refine below_drewN ?_ _) | (refine Below.trans ?_ (Below.mono (by with_reducible assumption) (by (first | omega | (simp; done) | (simp; omega)))))))
      have h1 : w2.cell? ⟨b, off + k * 2, none⟩ = some (.int .i64 t.At) := by rw [hbw.cell (by exact hab)]; exact h0
      go_wp2
      go_ret
      exact ⟨ret_int hfin.out.symm, hbw⟩
  · simp only [Bool.not_eq_true] at hok
    simp only [hok] at hok1
    have HO := Lib.hid hok1
    clear hok1
    go_enter Try.func7, Try.ntmps7
    go_wp2_with fail
    refine (impl_timerIndex now A c ts id _ (hr.keep (by (repeat (first | (with_reducible exact Below.refl _ _) | (with_reducible assumption) | ((with_reducible refine Below.setCell ?_ ?_ _); rotate_left; focus (first | omega | (simp; done) | (simp; omega))) | ((with_reducible refine Below.alloc ?_ ?_ _); rotate_left; focus (first | omega | (simp; done) | (simp; omega))) | (with_reducible refine Below.drew ?_) | (with_reducible refine below_drewN ?_ _) | (refine Below.trans ?_ (Below.mono (by with_reducible assumption) (by (first | omega | (simp; done) | (simp; omega)))))))) (by simp)) hm).mono ?_
    rintro e w1 ⟨rfl, hb1⟩
    have hz1 := hb1.size
    simp at hz1
    have BK0 := (Blk.new w _ _).keep hb1; have hc0 := BK0.cell; have hf0 := BK0.frozen
    go_wp2_with fail
    refine (HO.out _ (hr.keep (by (repeat (first | (with_reducible exact Below.refl _ _) | (with_reducible assumption) | ((with_reducible refine Below.setCell ?_ ?_ _); rotate_left; focus (first | omega | (simp; done) | (simp; omega))) | ((with_reducible refine Below.alloc ?_ ?_ _); rotate_left; focus (first | omega | (simp; done) | (simp; omega))) | (with_reducible refine Below.drew ?_) | (with_reducible refine below_drewN ?_ _) | (refine Below.trans ?_ (Below.mono (by with_reducible assumption) (by (first | omega | (simp; done) | (simp; omega)))))))) (by omega)) hm hcap).mono ?_
    rintro e w2 ⟨rfl, hb2⟩
    go_wp2
    go_ret
    exact ⟨ret_int (timerAtF_bad hok).symm, by (repeat (first | (with_reducible exact Below.refl _ _) | (with_reducible assumption) | ((with_reducible refine Below.setCell ?_ ?_ _); rotate_left; focus (first | omega | (simp; done) | (simp; omega))) | ((with_reducible refine Below.alloc ?_ ?_ _); rotate_left; focus (first | omega | (simp; done) | (simp; omega))) | (with_reducible refine Below.drew ?_) | (with_reducible refine below_drewN ?_ _) | (refine Below.trans ?_ (Below.mono (by with_reducible assumption) (by (first | omega | (simp; done) | (simp; omega)))))))⟩
end Go.Proofs.Ythahnaigdoiddaa

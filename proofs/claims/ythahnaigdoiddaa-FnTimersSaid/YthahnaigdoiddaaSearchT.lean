/- slices.BinarySearchFunc of timers. -/
import Derived.Test.YthahnaigdoiddaaPureSet2
import Derived.Test.YthahnaigdoiddaaClock3
import Derived.Test.YthahnaigdoiddaaImplTimer
set_option linter.unusedSimpArgs false
set_option linter.unusedVariables false
set_option maxRecDepth 20000
namespace Go.Proofs.Ythahnaigdoiddaa
open Go.RowKit
theorem cmpT_irrefl (a : Timer) : ¬ cmpT a a < 0 := by
  rw [← ahead_lt]
  unfold aheadB
  simp
theorem bs_end {ts : List Timer} {t : Timer} {lo : Nat} (hlo : lo ≤ ts.length) (hid : ∀ s ∈ ts, s.Id ≠ t.Id) (h1 : ∀ j s, j < lo → ts[j]? = some s → cmpT s t < 0) (h2 : ∀ j s, lo ≤ j → ts[j]? = some s → 0 ≤ cmpT s t) : insAt ts t = lo := by
  have hle := insAt_le ts t
  rcases Nat.lt_trichotomy (insAt ts t) lo with h | h | h
  · have hs := List.getElem?_eq_getElem (l := ts) (i := insAt ts t) (by omega)
    exact absurd (cmpT_trans (h1 _ _ h hs) (ahead_lt.1 (ins_next ts t hs))) (cmpT_irrefl _)
  · exact h
  · have hs := List.getElem?_eq_getElem (l := ts) (i := lo) (by omega)
    have h3 := ins_take ts t _ (List.mem_take_iff_getElem.2 ⟨lo, by omega, rfl⟩)
    exact absurd (ahead_lt.1 (ahead_total h3 (hid _ (List.getElem_mem _)))) (Int.not_lt.2 (h2 lo _ (Nat.le_refl _) hs))
theorem sorted_at {ts : List Timer} (hs : ts.Pairwise (fun s t => cmpT s t < 0)) {i j : Nat} {a b : Timer} (hij : i < j) (ha : ts[i]? = some a) (hb : ts[j]? = some b) : cmpT a b < 0 := by
  obtain ⟨h1, rfl⟩ := List.getElem?_eq_some_iff.1 ha
  obtain ⟨h2, rfl⟩ := List.getElem?_eq_some_iff.1 hb
  exact List.pairwise_iff_getElem.1 hs i j h1 h2 hij
set_option maxHeartbeats 3200000 in
theorem slices_Search_Timer (A : Option Addr) (c : Nat) (ts : List Timer) (t : Timer) (w : World) (hr : Reads w w.heap.size A (ts.flatMap Timer.cells)) (hm : ts.length ≤ 1000) (hs : ts.Pairwise (fun s t => cmpT s t < 0)) (hid : ∀ s ∈ ts, s.Id ≠ t.Id) :
    Calls Try.prog 38 #[.slice A ts.length c, .agg #[.int .i64 t.At, .int .i64 t.Id], .func (.func 35) #[] #[]] w fun e w' => ∃ b, e = .returned (.tuple #[.int .i64 (insAt ts t : Nat), .bool b]) ∧ Below w.heap.size w w' := by
  have HS := Lib.hid (fun (i j : Nat) (a b : Timer) (hij : i < j) (ha : ts[i]? = some a) (hb : ts[j]? = some b) => sorted_at hs hij ha hb)
  have HE := Lib.hid (fun (lo : Nat) (hlo : lo ≤ ts.length) h1 h2 => bs_end (t := t) hlo hid h1 h2)
  clear hs hid
  generalize hn : ts.length = n at *
  have Hn := Lib.hid hn
  clear hn
  generalize hp : insAt ts t = p at *
  clear hp
  go_enter Try.func38, Try.ntmps38
  go_wp2
  go_loopw [9, 10] (fun s9 s10 wr => ∃ lo hi : Nat, s9 = .int .i64 lo ∧ s10 = .int .i64 hi ∧ lo ≤ hi ∧ hi ≤ n ∧ Below w.heap.size w wr ∧ w.heap.size + 1 ≤ wr.heap.size ∧ Blk wr w.heap.size 52 #[.int .i64 t.At, .int .i64 t.Id] ∧ Hid (∀ j s, j < lo → ts[j]? = some s → cmpT s t < 0) ∧ Hid (∀ j s, hi ≤ j → ts[j]? = some s → 0 ≤ cmpT s t)) (fun s9 s10 _ => (intOf s10 - intOf s9).toNat)
  case atStart => exact ⟨0, n, rfl, rfl, Nat.zero_le _, Nat.le_refl _, by (repeat (first | (with_reducible exact Below.refl _ _) | (with_reducible assumption) | ((with_reducible refine Below.setCell ?_ ?_ _); rotate_left; focus (first | omega | (simp; done) | (simp; omega))) | ((with_reducible refine Below.alloc ?_ ?_ _); rotate_left; focus (first | omega | (simp; done) | (simp; omega))) | (with_reducible refine Below.drew ?_) | (with_reducible refine below_drewN ?_ _) | (refine Below.trans ?_ (Below.mono (by with_reducible assumption) (by (first | omega | (simp; done) | (simp; omega))))))), by simp, by (repeat (first | (with_reducible assumption) | ((with_reducible refine Blk.new' ?_); focus (simp; done)) | (with_reducible refine Blk.alloc ?_ _) | (with_reducible refine Blk.drew ?_) | (with_reducible refine Blk.drewN ?_ _) | ((with_reducible refine Blk.far ?_ ?_ _); rotate_left; focus (first | omega | (simp; done) | (simp; omega))) | (refine Blk.keep ?_ (by with_reducible assumption)) | (refine Blk.below ?_ (by with_reducible assumption) (by (first | omega | (simp; done) | (simp; omega)))))), Lib.hid (fun j s h => absurd h (Nat.not_lt_zero _)), Lib.hid (fun j s h e => by have h1 := (List.getElem?_eq_some_iff.1 e).1; rw [Hn.out] at h1; omega)⟩
  case round =>
    obtain ⟨lo, hi, rfl, rfl, hlh, hin, hb, hzr, BK, I1, I2⟩ := hrel
    have hcb := BK.cell
    by_cases hlt : lo < hi
    · obtain ⟨k, hk⟩ : ∃ k, k = (lo + hi) / 2 := ⟨_, rfl⟩
      have hk1 : lo ≤ k := by omega
      have hk2 : k < hi := by omega
      have hlx : k < ts.length := by rw [Hn.out]; omega
      obtain ⟨b, off, rfl, hab, hx⟩ := hr.elem Timer.len (by omega) hlx hb (Nat.le_refl _)
      have HG := Lib.hid (List.getElem?_eq_getElem hlx)
      generalize ts[k]'hlx = y at hx HG
      have hx0 := hx 0 (by omega)
      have hx1 := hx 1 (by omega)
      simp only [Timer.cells, List.getElem?_cons_zero, List.getElem?_cons_succ, Nat.add_zero] at hx0 hx1
      clear hx hlx
      have hki : ((lo : Int) + (hi : Int)) / 2 = (k : Int) := by omega
      clear hk
      have HC := Lib.hid (fun (n' : Lt wr) => impl_compareTimers y t (later _ n'))
      have HI1 := Lib.hid (fun (h : cmpT y t < 0) (j : Nat) (s : Timer) (hj : j < k + 1) (hs : ts[j]? = some s) => (by
        rcases Nat.lt_or_ge j k with h1 | h1
        · exact cmpT_trans (HS.out j k s y h1 hs HG.out) h
        · obtain rfl : j = k := by omega
          rw [HG.out] at hs
          obtain rfl : y = s := by simpa using hs
          exact h : cmpT s t < 0))
      have HI2 := Lib.hid (fun (h : 0 ≤ cmpT y t) (j : Nat) (s : Timer) (hj : k ≤ j) (hs : ts[j]? = some s) => (by
        refine Int.not_lt.1 (fun h2 => ?_)
        rcases Nat.lt_or_ge k j with h1 | h1
        · exact absurd (cmpT_trans (HS.out k j y s h1 HG.out hs) h2) (Int.not_lt.2 h)
        · obtain rfl : j = k := by omega
          rw [HG.out] at hs
          obtain rfl : y = s := by simpa using hs
          exact absurd h2 (Int.not_lt.2 h) : 0 ≤ cmpT s t))
      generalize cmpT y t = C at *
      by_cases hC : C < 0
      all_goals
        go_wp2_with fail
        have q0 := BK.later
        have q1 := later_cell hx0
        have q2 := later_cell hx1
        refine wp_region_later (by kernel_rfl) (by kernel_rfl) ?_
        repeat (first | go_big_quiet_step ((go_at_call 35; exact Calls.later_of (HC.out _))) | quiet_step ((go_at_call 35; exact Calls.later_of (HC.out _))))
        refine wpQuiet_nil ?_
        intro w3 hb3
        clear q0 q1 q2 HC
        have hz3 := hb3.size
        replace BK := BK.keep hb3
        go_wp2
        go_roundw
        case measure => simp [intOf]; omega
      · exact ⟨k + 1, hi, by go_num, rfl, by omega, hin, hb.trans (hb3.mono (by omega)), by omega, BK, Lib.hid (HI1.out hC), I2⟩
      · exact ⟨lo, k, rfl, rfl, by omega, by omega, hb.trans (hb3.mono (by omega)), by omega, BK, I1, Lib.hid (HI2.out (by omega))⟩
    · obtain rfl : hi = lo := by omega
      have HP : Hid (p = hi) := Lib.hid (HE.out hi (by omega) I1.out I2.out)
      by_cases hlast : hi < n
      · have hlx : hi < ts.length := by rw [Hn.out]; omega
        obtain ⟨b, off, rfl, hab, hx⟩ := hr.elem Timer.len (by omega) hlx hb (Nat.le_refl _)
        generalize ts[hi]'hlx = y at hx
        have hx0 := hx 0 (by omega)
        have hx1 := hx 1 (by omega)
        simp only [Timer.cells, List.getElem?_cons_zero, List.getElem?_cons_succ, Nat.add_zero] at hx0 hx1
        clear hx hlx
        have HC := Lib.hid (fun (n' : Lt wr) => impl_compareTimers y t (later _ n'))
        generalize cmpT y t = C at *
        have hd : decide (hi < n) = true := decide_eq_true hlast
        go_wp2_with fail
        have q0 := BK.later
        have q1 := later_cell hx0
        have q2 := later_cell hx1
        refine wp_region_later (by kernel_rfl) (by kernel_rfl) ?_
        repeat (first | go_big_quiet_step ((go_at_call 35; exact Calls.later_of (HC.out _))) | quiet_step ((go_at_call 35; exact Calls.later_of (HC.out _))))
        refine wpQuiet_nil ?_
        intro w3 hb3
        go_wp2
        go_ret2
        exact ⟨_, by rw [HP.out]; rfl, hb.trans (hb3.mono (by omega))⟩
      · have hd : decide (hi < n) = false := decide_eq_false hlast
        go_wp2_with fail
        have q0 := BK.later
        refine wp_region_later (by kernel_rfl) (by kernel_rfl) ?_
        repeat (first | go_big_quiet_step ((fail)) | quiet_step ((fail)))
        refine wpQuiet_nil ?_
        intro w3 hb3
        go_wp2
        go_ret2
        exact ⟨_, by rw [HP.out]; rfl, hb.trans (hb3.mono (by omega))⟩
end Go.Proofs.Ythahnaigdoiddaa

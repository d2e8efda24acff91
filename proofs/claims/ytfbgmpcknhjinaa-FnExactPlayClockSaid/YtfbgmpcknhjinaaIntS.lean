/- Contracts of the helpers on []int (printed by wip/gen/gen.py). -/
import Derived.Test.YtfbgmpcknhjinaaRows
import Derived.Test.YtfbgmpcknhjinaaLib
set_option linter.unusedSimpArgs false
set_option linter.unusedVariables false
set_option maxRecDepth 20000
namespace Go.Proofs.Ytfbgmpcknhjinaa
open Go.RowKit
theorem info_int : (Try.prog.info? 3).map (fun i => (i.zero, i.size, i.bytes)) = some (some (.int .i64 0), 1, 8) := by kernel_rfl
set_option maxHeartbeats 400000 in
theorem laws_eqIntS (A A' : Option Addr) (c c' : Nat) (xs ys : List Int) (w : World) (hr : Reads w w.heap.size A (xs.map intV)) (hr' : Reads w w.heap.size A' (ys.map intV))
    (hm : xs.length ≤ 140737488351232) (hm' : ys.length ≤ 140737488351232) :
    Calls Try.prog 12 #[.slice A xs.length c, .slice A' ys.length c'] w fun e w' => e = .returned (.bool (decide (xs = ys))) ∧ Still w w' := by
  generalize hn : xs.length = n at hm
  have Hn := Lib.hid hn
  clear hn
  generalize hn' : ys.length = n' at hm'
  have Hn' := Lib.hid hn'
  clear hn'
  by_cases hl : n = n'
  · subst hl
    go_enter Try.func12, Try.ntmps12
    go_wp2
    go_loopw [5] (fun i wr => ∃ k : Nat, k ≤ n ∧ i = .int .i64 k ∧ Still w wr ∧ Hid (xs.take k = ys.take k)) (fun i _ => n - (intOf i).toNat)
    case atStart => exact ⟨0, Nat.zero_le _, rfl, Still.refl _, rfl⟩
    case round =>
      obtain ⟨k, hk, rfl, ⟨m, rfl⟩, he⟩ := hrel
      by_cases hlt : k < n
      · have hlx : k < (xs.map intV).length := by simpa [Hn.out] using hlt
        have hly : k < (ys.map intV).length := by simpa [Hn'.out] using hlt
        obtain ⟨b, off, rfl, hab, hc1⟩ := hr.at_ hlx (Below.refl _ _) (Nat.le_refl _)
        obtain ⟨b', off', rfl, hab', hc2⟩ := hr'.at_ hly (Below.refl _ _) (Nat.le_refl _)
        obtain ⟨u, hu1, hu2, hu3⟩ := map_at intV xs k hlx
        obtain ⟨v, hv1, hv2, hv3⟩ := map_at intV ys k hly
        rw [hu1] at hc1
        rw [hv1] at hc2
        have HU := Lib.hid hu3
        have HV := Lib.hid hv3
        clear hu1 hu2 hv1 hv2 hu3 hv3 hr hr'
        simp only [intV] at hc1 hc2
        go_wp2
        go_quiet (fail)
        go_wp2
        · have hne : (u != v) = true := by assumption
          go_ret
          exact ⟨ret_bool (ne_of_at HU.out HV.out (int_ne hne)).symm, by first | exact still_drewN _ _ | exact (still_drewN _ _).drewN _⟩
        · have heq : (u != v) = false := by assumption
          go_roundw
          case rel => exact ⟨k + 1, by omega, by go_num, by first | exact still_drewN _ _ | exact (still_drewN _ _).drewN _, take_step he.out HU.out HV.out (int_eq heq)⟩
          case measure => simp [intOf]; omega
      · have : k = n := by omega
        subst this
        go_wp2
        go_ret
        exact ⟨ret_bool (by simp [eq_of_take he.out Hn.out Hn'.out]), still_drewN _ _⟩
  · go_enter Try.func12, Try.ntmps12
    have hb : ((n : Int) != n') = true := by simp; omega
    go_wp2
    go_ret
    exact ⟨ret_bool (ne_of_len Hn.out Hn'.out hl).symm, Still.refl _⟩
theorem laws_eqIntS_b (A A' : Option Addr) (c c' : Nat) (xs ys : List Int) (w : World) (hr : Reads w w.heap.size A (xs.map intV)) (hr' : Reads w w.heap.size A' (ys.map intV))
    (hm : xs.length ≤ 140737488351232) (hm' : ys.length ≤ 140737488351232) :
    Calls Try.prog 12 #[.slice A xs.length c, .slice A' ys.length c'] w fun e w' => e = .returned (.bool (decide (xs = ys))) ∧ Below w.heap.size w w' :=
  (laws_eqIntS A A' c c' xs ys w hr hr' hm hm').mono fun _ _ ⟨h1, h2⟩ => ⟨h1, h2.below _⟩
set_option maxHeartbeats 800000 in
theorem laws_markIntS (A : Option Addr) (c lo hi k : Nat) (cs : List Value) (w : World) (hw : Win w lo hi 3 A cs) (hm : cs.length ≤ 2097152) (hk : k ≤ 1073741824) :
    Calls Try.prog 14 #[.slice A cs.length c, .int .i64 k] w fun e w' => e = .returned (.int .i64 ((k + cs.length : Nat) : Int)) ∧ Win w' lo hi 3 A (markInts k cs.length) ∧ Out (InR lo hi) w w' := by
  generalize hn : cs.length = n at hm
  have Hn := Lib.hid hn
  clear hn
  go_enter Try.func14, Try.ntmps14
  go_wp2
  go_loopw [1, 5] (fun kk i wr => ∃ j : Nat, j ≤ n ∧ i = .int .i64 j ∧ kk = .int .i64 ((k + j : Nat) : Int) ∧ Marked wr lo hi 3 A (markInts k n) j ∧ Out (InR lo hi) w wr) (fun _ i _ => n - (intOf i).toNat)
  case atStart => exact ⟨0, Nat.zero_le _, rfl, rfl, Marked.start hw (by rw [markInts_len]; exact Hn.out), Out.refl _ _⟩
  case round =>
    obtain ⟨j, hj, rfl, rfl, hmk, ho⟩ := hrel
    by_cases hlt : j < n
    · obtain ⟨g, off, rfl, h1, h2, ⟨u0, hd0⟩, he0⟩ := hmk.at_ (i := j) (by rw [markInts_len]; omega)
      have R := Lib.hid (hmk.step (markInts_at k n j hlt))
      go_wp2
      go_roundw
      case rel =>
        refine ⟨j + 1, by omega, by go_num, by go_num, ?_, ho.setCell (p := ⟨g, off + j, none⟩) ⟨h1, h2⟩ _⟩
        have R' := R.out
        simpa using R'
      case measure => simp [intOf]; omega
    · obtain rfl : j = n := by omega
      go_wp2
      go_ret
      exact ⟨rfl, Marked.done' hmk (by rw [markInts_len]), ho⟩
set_option maxHeartbeats 800000 in
theorem laws_heldIntS (A : Option Addr) (c k n : Nat) (w : World) (hr : Reads w w.heap.size A (markInts k n)) (hm : n ≤ 2097152) (hk : k ≤ 1073741824) :
    Calls Try.prog 16 #[.slice A n c, .int .i64 k] w fun e w' => e = .returned (.int .i64 ((k + n : Nat) : Int)) ∧ Below w.heap.size w w' := by
  go_enter Try.func16, Try.ntmps16
  go_wp2
  go_loopw [1, 5] (fun kk i wr => ∃ j : Nat, j ≤ n ∧ i = .int .i64 j ∧ kk = .int .i64 ((k + j : Nat) : Int) ∧ Below w.heap.size w wr) (fun _ i _ => n - (intOf i).toNat)
  case atStart => exact ⟨0, Nat.zero_le _, rfl, rfl, Below.refl _ _⟩
  case round =>
    obtain ⟨j, hj, rfl, rfl, hb⟩ := hrel
    by_cases hlt : j < n
    · obtain ⟨b, off, rfl, -, hd0⟩ := hr.get (markInts_at k n j hlt) hb (Nat.le_refl _)
      push_cast at hd0
      go_wp2
      go_roundw
      case rel => exact ⟨j + 1, by omega, by go_num, by go_num, by (repeat (first | (with_reducible exact Below.refl _ _) | (with_reducible assumption) | ((with_reducible refine Below.setCell ?_ ?_ _); rotate_left; focus (first | omega | (simp; done) | (simp; omega))) | ((with_reducible refine Below.alloc ?_ ?_ _); rotate_left; focus (first | omega | (simp; done) | (simp; omega))) | (with_reducible refine Below.drew ?_) | (with_reducible refine below_drewN ?_ _) | (refine Below.trans ?_ (Below.mono (by with_reducible assumption) (by (first | omega | (simp; done) | (simp; omega)))))))⟩
      case measure => simp [intOf]; omega
    · obtain rfl : j = n := by omega
      go_wp2
      go_ret
      exact ⟨rfl, by (repeat (first | (with_reducible exact Below.refl _ _) | (with_reducible assumption) | ((with_reducible refine Below.setCell ?_ ?_ _); rotate_left; focus (first | omega | (simp; done) | (simp; omega))) | ((with_reducible refine Below.alloc ?_ ?_ _); rotate_left; focus (first | omega | (simp; done) | (simp; omega))) | (with_reducible refine Below.drew ?_) | (with_reducible refine below_drewN ?_ _) | (refine Below.trans ?_ (Below.mono (by with_reducible assumption) (by (first | omega | (simp; done) | (simp; omega)))))))⟩
end Go.Proofs.Ytfbgmpcknhjinaa

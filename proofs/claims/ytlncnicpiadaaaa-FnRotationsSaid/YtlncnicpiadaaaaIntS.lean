/- Contracts of the helpers on []int (printed by wip/gen/gen.py). -/
import Derived.Test.YtlncnicpiadaaaaRows
import Derived.Test.YtlncnicpiadaaaaLib
set_option linter.unusedSimpArgs false
set_option linter.unusedVariables false
set_option maxRecDepth 20000
namespace Go.Proofs.Ytlncnicpiadaaaa
open Go.RowKit
theorem info_int : (Try.prog.info? 3).map (fun i => (i.zero, i.size, i.bytes)) = some (some (.int .i64 0), 1, 8) := by kernel_rfl
theorem laws_szIntS (A : Option Addr) (n c : Nat) (left : Int) (w : World) (hn : n ≤ 9223372036854775807) (h1 : -1 ≤ left) (h2 : left ≤ 1048576) :
    Calls Try.prog 31 #[.slice A n c, .int .i64 left] w fun e w' => e = .returned (.int .i64 (leftOf left n)) ∧ w = w' := by
  go_enter Try.func31, Try.ntmps31
  go_wp2
  all_goals (go_ret; exact ⟨ret_int (by unfold leftOf; split <;> omega), rfl⟩)
set_option maxHeartbeats 400000 in
theorem laws_toIntS (A : Option Addr) (c : Nat) (xs : List Int) (w : World) (hr : Reads w w.heap.size A (xs.map intV)) (hm : xs.length ≤ 1048576) :
    Calls Try.prog 36 #[.slice A xs.length c] w fun e w' => ∃ A1 c1, e = .returned (.slice A1 xs.length c1) ∧ w'.ownsRow w.heap.size 3 1 (.slice A1 xs.length c1) xs.length (xs.map intV) ∧ Below w.heap.size w w' := by
  obtain ⟨i0, hi, hz0, hz1, hz2⟩ := info_parts info_int
  generalize hn : xs.length = n at hm
  have Hn := Lib.hid hn
  clear hn
  go_enter Try.func36, Try.ntmps36
  go_wp2_with (first | (at_make; refine wpList_make_full _ rfl _ _ 22 rfl w.heap.size 3 i0 _ 1 Try.underlying22 hi hz0 hz1 .i64 .i64 _ _ n rfl rfl (by omega) (by omega) (by rw [hz2]; omega) (by unfold maxLen; omega) (Nat.le_refl _) ?_; intro w1 hown hg))
  have hb0 : Below w.heap.size w w1 := (Below.refl _ _).grown hg (Nat.le_refl _) (by simp)
  go_loopw [4] (fun i wr => ∃ k : Nat, k ≤ n ∧ i = .int .i64 k ∧ Filled wr w.heap.size w.heap.size 3 1 n (xs.map intV) k ∧ Below w.heap.size w wr) (fun i _ => n - (intOf i).toNat)
  case atStart => exact ⟨0, Nat.zero_le _, rfl, Filled.start hown (by simpa using Hn.out), hb0⟩
  case round =>
    obtain ⟨k, hk, rfl, hf, hb⟩ := hrel
    clear hown hg hb0
    by_cases hlt : k < n
    · have hlx : k < (xs.map intV).length := by simpa [Hn.out] using hlt
      obtain ⟨b, off, rfl, hab, hc1⟩ := hr.at_ hlx hb (Nat.le_refl _)
      obtain ⟨u, hu1, hu2, hu3⟩ := map_at intV xs k hlx
      rw [hu1] at hc1
      have HU := Lib.hid hu2
      clear hu1 hu2 hu3
      simp only [intV] at hc1
      obtain ⟨⟨u', hc2⟩, hf2⟩ := hf.cell k (by omega)
      go_wp2
      have := hf.step HU.out
      go_roundw
      case rel => exact ⟨k + 1, by omega, by go_num, this, hb.setCell (Nat.le_refl _) _⟩
      case measure => simp [intOf]; omega
    · have : k = n := by omega
      subst this
      go_wp2
      go_ret
      exact ⟨_, _, rfl, (Filled.done (m := 1) (by simpa using hf)), hb⟩
set_option maxHeartbeats 400000 in
theorem laws_eqIntS (A A' : Option Addr) (c c' : Nat) (xs ys : List Int) (w : World) (hr : Reads w w.heap.size A (xs.map intV)) (hr' : Reads w w.heap.size A' (ys.map intV))
    (hm : xs.length ≤ 140737488351232) (hm' : ys.length ≤ 140737488351232) :
    Calls Try.prog 40 #[.slice A xs.length c, .slice A' ys.length c'] w fun e w' => e = .returned (.bool (decide (xs = ys))) ∧ Still w w' := by
  generalize hn : xs.length = n at hm
  have Hn := Lib.hid hn
  clear hn
  generalize hn' : ys.length = n' at hm'
  have Hn' := Lib.hid hn'
  clear hn'
  by_cases hl : n = n'
  · subst hl
    go_enter Try.func40, Try.ntmps40
    go_wp2
    go_loopw [5] (fun i wr => ∃ k : Nat, k ≤ n ∧ i = .int .i64 k ∧ Still w wr ∧ Hid (xs.take k = ys.take k)) (fun i _ => n - (intOf i).toNat)
    case atStart => exact ⟨0, Nat.zero_le _, rfl, Still.refl _, rfl⟩
    case round =>
      obtain ⟨k, hk, rfl, ⟨m, rfl⟩, he⟩ := hrel
      by_cases hlt : k < n
      · have hlx : k < (xs.map intV).length := by simpa [Hn.out] using hlt
        have hly : k < (ys.map intV).length := by simpa [Hn'.out] using hlt
        obtain ⟨b, off, rfl, hab, hc1⟩ := hr.at_ hlx (Below.refl _ _) (Nat.le_refl _)
        obtain ⟨b', off', rfl, hab', hc2⟩ := hr'.at_ hly (Below.refl _ _) (Nat.le_refl _)
        obtain ⟨u, hu1, hu2, hu3⟩ := map_at intV xs k hlx
        obtain ⟨v, hv1, hv2, hv3⟩ := map_at intV ys k hly
        rw [hu1] at hc1
        rw [hv1] at hc2
        have HU := Lib.hid hu3
        have HV := Lib.hid hv3
        clear hu1 hu2 hv1 hv2 hu3 hv3 hr hr'
        simp only [intV] at hc1 hc2
        go_wp2
        go_quiet (fail)
        go_wp2
        · have hne : (u != v) = true := by assumption
          go_ret
          exact ⟨ret_bool (ne_of_at HU.out HV.out (int_ne hne)).symm, by first | exact still_drewN _ _ | exact (still_drewN _ _).drewN _⟩
        · have heq : (u != v) = false := by assumption
          go_roundw
          case rel => exact ⟨k + 1, by omega, by go_num, by first | exact still_drewN _ _ | exact (still_drewN _ _).drewN _, take_step he.out HU.out HV.out (int_eq heq)⟩
          case measure => simp [intOf]; omega
      · have : k = n := by omega
        subst this
        go_wp2
        go_ret
        exact ⟨ret_bool (by simp [eq_of_take he.out Hn.out Hn'.out]), still_drewN _ _⟩
  · go_enter Try.func40, Try.ntmps40
    have hb : ((n : Int) != n') = true := by simp; omega
    go_wp2
    go_ret
    exact ⟨ret_bool (ne_of_len Hn.out Hn'.out hl).symm, Still.refl _⟩
theorem laws_eqIntS_b (A A' : Option Addr) (c c' : Nat) (xs ys : List Int) (w : World) (hr : Reads w w.heap.size A (xs.map intV)) (hr' : Reads w w.heap.size A' (ys.map intV))
    (hm : xs.length ≤ 140737488351232) (hm' : ys.length ≤ 140737488351232) :
    Calls Try.prog 40 #[.slice A xs.length c, .slice A' ys.length c'] w fun e w' => e = .returned (.bool (decide (xs = ys))) ∧ Below w.heap.size w w' :=
  (laws_eqIntS A A' c c' xs ys w hr hr' hm hm').mono fun _ _ ⟨h1, h2⟩ => ⟨h1, h2.below _⟩
set_option maxHeartbeats 800000 in
theorem laws_markIntS (A : Option Addr) (c lo hi k : Nat) (cs : List Value) (w : World) (hw : Win w lo hi 3 A cs) (hm : cs.length ≤ 2097152) (hk : k ≤ 1073741824) :
    Calls Try.prog 42 #[.slice A cs.length c, .int .i64 k] w fun e w' => e = .returned (.int .i64 ((k + cs.length : Nat) : Int)) ∧ Win w' lo hi 3 A (markInts k cs.length) ∧ Out (InR lo hi) w w' := by
  generalize hn : cs.length = n at hm
  have Hn := Lib.hid hn
  clear hn
  go_enter Try.func42, Try.ntmps42
  go_wp2
  go_loopw [1, 5] (fun kk i wr => ∃ j : Nat, j ≤ n ∧ i = .int .i64 j ∧ kk = .int .i64 ((k + j : Nat) : Int) ∧ Marked wr lo hi 3 A (markInts k n) j ∧ Out (InR lo hi) w wr) (fun _ i _ => n - (intOf i).toNat)
  case atStart => exact ⟨0, Nat.zero_le _, rfl, rfl, Marked.start hw (by rw [markInts_len]; exact Hn.out), Out.refl _ _⟩
  case round =>
    obtain ⟨j, hj, rfl, rfl, hmk, ho⟩ := hrel
    by_cases hlt : j < n
    · obtain ⟨g, off, rfl, h1, h2, ⟨u0, hd0⟩, he0⟩ := hmk.at_ (i := j) (by rw [markInts_len]; omega)
      have R := Lib.hid (hmk.step (markInts_at k n j hlt))
      go_wp2
      go_roundw
      case rel =>
        refine ⟨j + 1, by omega, by go_num, by go_num, ?_, ho.setCell (p := ⟨g, off + j, none⟩) ⟨h1, h2⟩ _⟩
        have R' := R.out
        simpa using R'
      case measure => simp [intOf]; omega
    · obtain rfl : j = n := by omega
      go_wp2
      go_ret
      exact ⟨rfl, Marked.done' hmk (by rw [markInts_len]), ho⟩
end Go.Proofs.Ytlncnicpiadaaaa

/- Contracts of the helpers on []string (printed by wip/gen/gen.py). -/
import Derived.Test.YtoijmnnjcoogkaaDoorRows
import Derived.Test.YtoijmnnjcoogkaaDoorLib
set_option linter.unusedSimpArgs false
set_option linter.unusedVariables false
set_option maxRecDepth 20000
namespace Go.Proofs.YtoijmnnjcoogkaaDoor
open Go.RowKit
theorem info_string : (Tryd.prog.info? 9).map (fun i => (i.zero, i.size, i.bytes)) = some (some (.string ByteArray.empty), 1, 16) := by kernel_rfl
set_option maxHeartbeats 800000 in
theorem laws_szStringS (A : Option Addr) (c : Nat) (xs : List ByteArray) (left : Int) (w : World) (hr : Reads w w.heap.size A (xs.map strV)) (hn : xs.length ≤ 9223372036854775807) (hs : ∀ s ∈ xs, s.size ≤ 9223372036854775807) (h1 : -1 ≤ left) (h2 : left ≤ 1048576) :
    Calls Tryd.prog 50 #[.slice A xs.length c, .int .i64 left] w fun e w' => e = .returned (.int .i64 (leftOf left (xs.length + strSum xs))) ∧ w = w' := by
  generalize hl : xs.length = n at hn
  have Hn := Lib.hid hl
  clear hl
  go_enter Tryd.func50, Tryd.ntmps50
  by_cases h0 : left - n < 0
  · go_wp2
    go_ret
    exact ⟨ret_int (by unfold leftOf; rw [if_pos (by omega)]), rfl⟩
  · go_wp2
    go_loop [1, 5] (fun l i => ∃ k : Nat, k ≤ n ∧ i = .int .i64 k ∧ l = .int .i64 (left - n - (strSum (xs.take k) : Nat)) ∧ (0 : Int) ≤ left - n - (strSum (xs.take k) : Nat)) (fun _ i => n - (intOf i).toNat)
    case atStart => exact ⟨0, Nat.zero_le _, rfl, by simp [strSum], by simp [strSum]; omega⟩
    case round =>
      obtain ⟨k, hk, rfl, rfl, hnn⟩ := hrel
      by_cases hlt : k < n
      · have hlx : k < xs.length := by rw [Hn.out]; exact hlt
        have hlx' : k < (xs.map strV).length := by simpa using hlx
        obtain ⟨b, off, rfl, hab, hc1⟩ := hr.at_ hlx' (Below.refl _ _) (Nat.le_refl _)
        rw [List.getElem_map] at hc1
        have hsz := hs _ (List.getElem_mem hlx)
        have HS := Lib.hid (strSum_succ hlx)
        have HL := Lib.hid (strSum_get hlx)
        generalize xs[k]'hlx = u at hc1 hsz HS HL
        simp only [strV] at hc1
        have hpos : (0 : Int) ≤ (strSum (xs.take k) : Nat) := by omega
        generalize hq : strSum (xs.take k) = q at *
        have HQ := Lib.hid hq
        clear hq
        by_cases hneg : left - n - (q : Int) - (u.size : Int) < 0
        · go_wp2
          go_ret
          exact ⟨ret_int (by unfold leftOf; rw [if_pos (by have h3 := HL.out; omega)]), rfl⟩
        · go_wp2
          go_round
          case rel => exact ⟨k + 1, by omega, by go_num, by rw [HS.out]; go_num, by rw [HS.out]; omega⟩
          case measure => simp [intOf]; omega
      · obtain rfl : k = n := by omega
        rw [List.take_of_length_le (by rw [Hn.out]; exact Nat.le_refl _)] at hnn ⊢
        go_wp2
        go_ret
        exact ⟨ret_int (by unfold leftOf; rw [if_neg (by omega)]; omega), rfl⟩
set_option maxHeartbeats 400000 in
theorem laws_toStringS (A : Option Addr) (c : Nat) (xs : List ByteArray) (w : World) (hr : Reads w w.heap.size A (xs.map strV)) (hm : xs.length ≤ 1048576) :
    Calls Tryd.prog 57 #[.slice A xs.length c] w fun e w' => ∃ A1 c1, e = .returned (.slice A1 xs.length c1) ∧ w'.ownsRow w.heap.size 9 1 (.slice A1 xs.length c1) xs.length (xs.map strV) ∧ Below w.heap.size w w' := by
  obtain ⟨i0, hi, hz0, hz1, hz2⟩ := info_parts info_string
  generalize hn : xs.length = n at hm
  have Hn := Lib.hid hn
  clear hn
  go_enter Tryd.func57, Tryd.ntmps57
  go_wp2_with (first | (at_make; refine wpList_make_full _ rfl _ _ 46 rfl w.heap.size 9 i0 _ 1 Tryd.underlying46 hi hz0 hz1 .i64 .i64 _ _ n rfl rfl (by omega) (by omega) (by rw [hz2]; omega) (by unfold maxLen; omega) (Nat.le_refl _) ?_; intro w1 hown hg))
  have hb0 : Below w.heap.size w w1 := (Below.refl _ _).grown hg (Nat.le_refl _) (by simp)
  go_loopw [4] (fun i wr => ∃ k : Nat, k ≤ n ∧ i = .int .i64 k ∧ Filled wr w.heap.size w.heap.size 9 1 n (xs.map strV) k ∧ Below w.heap.size w wr) (fun i _ => n - (intOf i).toNat)
  case atStart => exact ⟨0, Nat.zero_le _, rfl, Filled.start hown (by simpa using Hn.out), hb0⟩
  case round =>
    obtain ⟨k, hk, rfl, hf, hb⟩ := hrel
    clear hown hg hb0
    by_cases hlt : k < n
    · have hlx : k < (xs.map strV).length := by simpa [Hn.out] using hlt
      obtain ⟨b, off, rfl, hab, hc1⟩ := hr.at_ hlx hb (Nat.le_refl _)
      obtain ⟨u, hu1, hu2, hu3⟩ := map_at strV xs k hlx
      rw [hu1] at hc1
      have HU := Lib.hid hu2
      clear hu1 hu2 hu3
      simp only [strV] at hc1
      obtain ⟨⟨u', hc2⟩, hf2⟩ := hf.cell k (by omega)
      go_wp2
      have := hf.step HU.out
      go_roundw
      case rel => exact ⟨k + 1, by omega, by go_num, this, hb.setCell (Nat.le_refl _) _⟩
      case measure => simp [intOf]; omega
    · have : k = n := by omega
      subst this
      go_wp2
      go_ret
      exact ⟨_, _, rfl, (Filled.done (m := 1) (by simpa using hf)), hb⟩
set_option maxHeartbeats 400000 in
theorem laws_eqStringS (A A' : Option Addr) (c c' : Nat) (xs ys : List ByteArray) (w : World) (hr : Reads w w.heap.size A (xs.map strV)) (hr' : Reads w w.heap.size A' (ys.map strV))
    (hm : xs.length ≤ 140737488351232) (hm' : ys.length ≤ 140737488351232) :
    Calls Tryd.prog 65 #[.slice A xs.length c, .slice A' ys.length c'] w fun e w' => e = .returned (.bool (decide (xs = ys))) ∧ Still w w' := by
  generalize hn : xs.length = n at hm
  have Hn := Lib.hid hn
  clear hn
  generalize hn' : ys.length = n' at hm'
  have Hn' := Lib.hid hn'
  clear hn'
  by_cases hl : n = n'
  · subst hl
    go_enter Tryd.func65, Tryd.ntmps65
    go_wp2
    go_loopw [5] (fun i wr => ∃ k : Nat, k ≤ n ∧ i = .int .i64 k ∧ Still w wr ∧ Hid (xs.take k = ys.take k)) (fun i _ => n - (intOf i).toNat)
    case atStart => exact ⟨0, Nat.zero_le _, rfl, Still.refl _, rfl⟩
    case round =>
      obtain ⟨k, hk, rfl, ⟨m, rfl⟩, he⟩ := hrel
      by_cases hlt : k < n
      · have hlx : k < (xs.map strV).length := by simpa [Hn.out] using hlt
        have hly : k < (ys.map strV).length := by simpa [Hn'.out] using hlt
        obtain ⟨b, off, rfl, hab, hc1⟩ := hr.at_ hlx (Below.refl _ _) (Nat.le_refl _)
        obtain ⟨b', off', rfl, hab', hc2⟩ := hr'.at_ hly (Below.refl _ _) (Nat.le_refl _)
        obtain ⟨u, hu1, hu2, hu3⟩ := map_at strV xs k hlx
        obtain ⟨v, hv1, hv2, hv3⟩ := map_at strV ys k hly
        rw [hu1] at hc1
        rw [hv1] at hc2
        have HU := Lib.hid hu3
        have HV := Lib.hid hv3
        clear hu1 hu2 hv1 hv2 hu3 hv3 hr hr'
        simp only [strV] at hc1 hc2
        go_wp2
        go_quiet (fail)
        go_wp2
        · have hne : (!u.toList == v.toList) = true := by assumption
          go_ret
          exact ⟨ret_bool (ne_of_at HU.out HV.out (str_ne hne)).symm, by first | exact still_drewN _ _ | exact (still_drewN _ _).drewN _⟩
        · have heq : (!u.toList == v.toList) = false := by assumption
          go_roundw
          case rel => exact ⟨k + 1, by omega, by go_num, by first | exact still_drewN _ _ | exact (still_drewN _ _).drewN _, take_step he.out HU.out HV.out (str_eq heq)⟩
          case measure => simp [intOf]; omega
      · have : k = n := by omega
        subst this
        go_wp2
        go_ret
        exact ⟨ret_bool (by simp [eq_of_take he.out Hn.out Hn'.out]), still_drewN _ _⟩
  · go_enter Tryd.func65, Tryd.ntmps65
    have hb : ((n : Int) != n') = true := by simp; omega
    go_wp2
    go_ret
    exact ⟨ret_bool (ne_of_len Hn.out Hn'.out hl).symm, Still.refl _⟩
theorem laws_eqStringS_b (A A' : Option Addr) (c c' : Nat) (xs ys : List ByteArray) (w : World) (hr : Reads w w.heap.size A (xs.map strV)) (hr' : Reads w w.heap.size A' (ys.map strV))
    (hm : xs.length ≤ 140737488351232) (hm' : ys.length ≤ 140737488351232) :
    Calls Tryd.prog 65 #[.slice A xs.length c, .slice A' ys.length c'] w fun e w' => e = .returned (.bool (decide (xs = ys))) ∧ Below w.heap.size w w' :=
  (laws_eqStringS A A' c c' xs ys w hr hr' hm hm').mono fun _ _ ⟨h1, h2⟩ => ⟨h1, h2.below _⟩
end Go.Proofs.YtoijmnnjcoogkaaDoor

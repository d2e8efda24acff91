/- The laws' small helpers over bytes: at, big, cpBytes, sameBytes. -/
import Derived.Test.YtndgaakfndokgaaImplWithin
import Derived.Test.YtndgaakfndokgaaRep
import Derived.Test.YtndgaakfndokgaaByteS
import Derived.Test.YtndgaakfndokgaaAppend
set_option linter.unusedSimpArgs false
set_option linter.unusedVariables false
set_option maxRecDepth 20000
namespace Go.Proofs.Ytndgaakfndokgaa
open Go.RowKit
def atV (xs : List UInt8) (i : Nat) : Int := match xs[i]? with
  | some u => (u.toNat : Int)
  | none => ((i : Int) * 13 + (xs.length : Int) * 5) % 256
theorem atV_some {xs : List UInt8} {i : Nat} {u : UInt8} (h : xs[i]? = some u) : atV xs i = u.toNat := by unfold atV; rw [h]
theorem atV_none {xs : List UInt8} {i : Nat} (h : xs.length ≤ i) : atV xs i = ((i : Int) * 13 + (xs.length : Int) * 5) % 256 := by unfold atV; rw [List.getElem?_eq_none h]
theorem atV_bd (xs : List UInt8) (i : Nat) : 0 ≤ atV xs i ∧ atV xs i ≤ 255 := by
  unfold atV
  split
  · rename_i u _; have := u.toNat_lt; omega
  · omega
theorem laws_big (A : Option Addr) (n c : Nat) (w : World) (hn : n ≤ 9223372036854775807) :
    Calls Try.prog 5 #[.slice A n c] w fun e w' => e = .returned (.bool (decide ((1048576 : Int) < n))) ∧ w = w' := by
  go_enter Try.func5, Try.ntmps5
  go_wp2
  all_goals (go_ret; exact ⟨ret_bool (by first | rfl | (simp; done) | (simp; omega)), rfl⟩)
set_option maxHeartbeats 800000 in
theorem laws_at (A : Option Addr) (c : Nat) (xs : List UInt8) (i : Nat) (w : World) (hr : Reads w w.heap.size A (xs.map byteV)) (hm : xs.length ≤ 1048576) (hi : i ≤ 1000000) :
    Calls Try.prog 15 #[.slice A xs.length c, .int .i64 i] w fun e w' => e = .returned (.int .i64 (atV xs i)) ∧ w = w' := by
  by_cases hlt : i < xs.length
  · have hlx : i < (xs.map byteV).length := by simpa using hlt
    obtain ⟨g, off, rfl, hab, hc1⟩ := hr.at_ hlx (Below.refl _ _) (Nat.le_refl _)
    obtain ⟨u, hu1, -, hu3⟩ := map_at byteV xs i hlx
    rw [hu1] at hc1
    simp only [byteV] at hc1
    have hub := u.toNat_lt
    rw [atV_some hu3]
    have HU := Lib.hid hu3
    clear hu3 hu1 hlx
    go_enter Try.func15, Try.ntmps15
    go_wp2
    go_ret
    exact ⟨rfl, rfl⟩
  · rw [atV_none (by omega)]
    have hr : Int.tmod ((i : Int) * 13 + (xs.length : Int) * 5) 256 = ((i : Int) * 13 + (xs.length : Int) * 5) % 256 := Int.tmod_eq_emod_of_nonneg (by omega)
    go_enter Try.func15, Try.ntmps15
    go_wp2
    go_ret
    exact ⟨rfl, rfl⟩
set_option maxHeartbeats 800000 in
theorem laws_cpBytes (A : Option Addr) (c : Nat) (xs : List UInt8) (w : World) (hr : Reads w w.heap.size A (xs.map byteV)) (hm : xs.length ≤ 1073741824) :
    Calls Try.prog 11 #[.slice A xs.length c] w fun e w' => ∃ A1 c1, e = .returned (.slice A1 xs.length c1) ∧ w'.ownsRow w.heap.size 5 1 (.slice A1 xs.length c1) xs.length (xs.map byteV) ∧ Below w.heap.size w w' := by
  obtain ⟨i0, hi0, hI0, hI1, hI2⟩ := info_parts info_uint8
  generalize hn : xs.length = n at hm
  have Hn := Lib.hid hn
  clear hn
  go_enter Try.func11, Try.ntmps11
  go_wp2
  go_loopw [3, 4] (fun o i wr => ∃ (k : Nat) (A1 : Option Addr) (c1 : Nat), k ≤ n ∧ i = .int .i64 k ∧ o = .slice A1 k c1 ∧ wr.ownsRow w.heap.size 5 1 (.slice A1 k c1) k ((xs.take k).map byteV) ∧ Below w.heap.size w wr ∧ w.heap.size ≤ wr.heap.size) (fun _ i _ => n - (intOf i).toNat)
  case atStart => exact ⟨0, some ⟨w.heap.size, 0, none⟩, 0, Nat.zero_le _, rfl, rfl, World.ownsRow_lit w #[] 0 (Nat.le_refl _) (by simp [maxLen]) rfl, by (repeat (first | (with_reducible exact Below.refl _ _) | (with_reducible assumption) | ((with_reducible refine Below.setCell ?_ ?_ _); rotate_left; focus (first | omega | (simp; done) | (simp; omega))) | ((with_reducible refine Below.alloc ?_ ?_ _); rotate_left; focus (first | omega | (simp; done) | (simp; omega))) | (with_reducible refine Below.drew ?_) | (with_reducible refine below_drewN ?_ _) | (refine Below.trans ?_ (Below.mono (by with_reducible assumption) (by (first | omega | (simp; done) | (simp; omega))))))), by simp⟩
  case round =>
    obtain ⟨k, A1, c1, hk, rfl, rfl, hown, hb, hzr⟩ := hrel
    by_cases hlt : k < n
    · have hlx : k < (xs.map byteV).length := by simpa [Hn.out] using hlt
      obtain ⟨b, off, rfl, hab, hc1⟩ := hr.at_ hlx hb (Nat.le_refl _)
      obtain ⟨u, hu1, hu2, hu3⟩ := map_at byteV xs k hlx
      rw [hu1] at hc1
      have HT := Lib.hid (take_snoc hu3)
      clear hu1 hu2 hu3
      simp only [byteV] at hc1
      go_wp2_with (first | (at_builtin; go_loud (refine wpList_append_own_at _ rfl _ _ 22 rfl (w.heap.size) 5 i0 (.int .u8 0) 1 1 Try.underlying22 hi0 hI0 hI1 hI2 rfl (by decide) _ _ _ rfl (hown.alloc _) ⟨(wr).heap.size, 0, none⟩ 1 1 [.int .u8 u.toNat] rfl rfl ?c1 ?c2 ?c3 ?c4 ?c5 ?_; (case c1 => exact cell_one_new _ _ _); (case c2 => simp [Value.oneCell']); (case c3 => (simp only [maxLen]; omega)); (case c4 => omega); (case c5 => (simp; omega)); intro v' wA hown1 hgrow hnil hat; obtain ⟨gg, cap, rfl, hg1, hg2⟩ := hown1.form (by omega))))
      go_roundw
      case rel =>
        have hsz := hgrow.size
        simp at hsz
        refine ⟨k + 1, some ⟨gg, 0, none⟩, cap, by omega, by go_num, by rfl, ?_, ?_, by omega⟩
        · rw [HT.out, List.map_append]; exact hown1
        · exact Below.grown (hb.alloc (by omega) _) hgrow (by simp; omega) (fun g e => (hown.lt _ e).1)
      case measure => simp [intOf]; omega
    · obtain rfl : k = n := by omega
      rw [List.take_of_length_le (by rw [Hn.out]; exact Nat.le_refl _)] at hown
      go_wp2
      go_ret
      exact ⟨_, _, rfl, hown, hb⟩
set_option maxHeartbeats 800000 in
theorem laws_sameBytes (A A' : Option Addr) (c c' n : Nat) (xs : List UInt8) (w : World) (hr : Reads w w.heap.size A (xs.map byteV)) (hr' : Reads w w.heap.size A' (xs.map byteV)) (hn : xs.length = n) (hm : n ≤ 1073741824) :
    Calls Try.prog 9 #[.slice A n c, .slice A' n c'] w fun e w' => e = .returned (.bool true) ∧ Below w.heap.size w w' := by
  have Hn := Lib.hid hn
  clear hn
  go_enter Try.func9, Try.ntmps9
  go_wp2
  go_loopw [5] (fun i wr => ∃ k : Nat, k ≤ n ∧ i = .int .i64 k ∧ Below w.heap.size w wr) (fun i _ => n - (intOf i).toNat)
  case atStart => exact ⟨0, Nat.zero_le _, rfl, by (repeat (first | (with_reducible exact Below.refl _ _) | (with_reducible assumption) | ((with_reducible refine Below.setCell ?_ ?_ _); rotate_left; focus (first | omega | (simp; done) | (simp; omega))) | ((with_reducible refine Below.alloc ?_ ?_ _); rotate_left; focus (first | omega | (simp; done) | (simp; omega))) | (with_reducible refine Below.drew ?_) | (with_reducible refine below_drewN ?_ _) | (refine Below.trans ?_ (Below.mono (by with_reducible assumption) (by (first | omega | (simp; done) | (simp; omega)))))))⟩
  case round =>
    obtain ⟨k, hk, rfl, hb⟩ := hrel
    by_cases hlt : k < n
    · have hlx : k < (xs.map byteV).length := by simpa [Hn.out] using hlt
      obtain ⟨b, off, rfl, hab, hc1⟩ := hr.at_ hlx hb (Nat.le_refl _)
      obtain ⟨b', off', rfl, hab', hc2⟩ := hr'.at_ hlx hb (Nat.le_refl _)
      obtain ⟨u, hu1, hu2, hu3⟩ := map_at byteV xs k hlx
      rw [hu1] at hc1 hc2
      clear hu1 hu2 hu3 hlx
      simp only [byteV] at hc1 hc2
      have q1 := later_cell hc1
      have q2 := later_cell hc2
      go_wp2_with fail
      refine wp_region_later (by kernel_rfl) (by kernel_rfl) ?_
      repeat (first | go_big_quiet_step (fail) | quiet_step (fail))
      refine wpQuiet_nil ?_
      intro w3 hb3
      have hzr := hb.size
      go_wp2
      go_roundw
      case rel => exact ⟨k + 1, by omega, by go_num, hb.trans (hb3.mono hzr)⟩
      case measure => simp [intOf]; omega
    · go_wp2
      go_ret
      exact ⟨rfl, hb⟩
end Go.Proofs.Ytndgaakfndokgaa

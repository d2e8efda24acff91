/- Whether a text is in a slice: l08HasText of the reference; slices.Contains, slices.ContainsFunc of makeToken. -/
import Derived.Test.YtialceppopjhaaaStringS2
import Derived.Test.YtialceppopjhaaaHas
set_option linter.unusedSimpArgs false
set_option linter.unusedVariables false
namespace Go.Proofs.Ytialceppopjhaaa
open Go.RowKit
def hasT (xs : List ByteArray) (x : ByteArray) : Bool := xs.any (fun y => y.toList == x.toList)
theorem anyT_found {α : Type} {p : α → Bool} {xs : List α} {k : Nat} {y : α} (h : xs[k]? = some y) (he : p y = true) : xs.any p = true := by
  rw [List.any_eq_true]
  exact ⟨y, List.mem_of_getElem? h, he⟩
theorem anyT_none {α : Type} {p : α → Bool} {xs : List α} {k : Nat} (hk : xs.length ≤ k) (h : (xs.take k).any p = false) : xs.any p = false := by
  rw [List.take_of_length_le hk] at h; exact h
theorem toList_comm (x y : ByteArray) : (x.toList == y.toList) = (y.toList == x.toList) := by
  cases h : y.toList == x.toList
  · rw [beq_eq_false_iff_ne] at h ⊢; exact fun e => h e.symm
  · rw [beq_iff_eq] at h ⊢; exact h.symm
set_option maxHeartbeats 800000 in
theorem spec_l08HasText (A : Option Addr) (c : Nat) (xs : List ByteArray) (x : ByteArray) (w : World) (hr : Reads w w.heap.size A (xs.map strV)) (hm : xs.length ≤ 140737488351232) :
    Calls Try.prog 58 #[.slice A xs.length c, .string x] w fun e w' => e = .returned (.bool (hasT xs x)) ∧ w = w' := by
  generalize hn : xs.length = n at hm
  have Hn := Lib.hid hn
  clear hn
  go_enter Try.func58, Try.ntmps58
  go_wp2
  go_loop [5] (fun i => ∃ k : Nat, k ≤ n ∧ i = .int .i64 k ∧ Hid ((xs.take k).any (fun y => y.toList == x.toList) = false)) (fun i => n - (intOf i).toNat)
  case atStart => exact ⟨0, Nat.zero_le _, rfl, Lib.hid rfl⟩
  case round =>
    obtain ⟨k, hk, rfl, hinv⟩ := hrel
    by_cases hlt : k < n
    · have hlx : k < xs.length := by rw [Hn.out]; exact hlt
      obtain ⟨b, off, rfl, hab, hc1⟩ := hr.at_ (by simpa using hlx) (Below.refl _ _) (Nat.le_refl _)
      rw [List.getElem_map] at hc1
      have HG := Lib.hid (List.getElem?_eq_getElem hlx)
      generalize xs[k]'hlx = y at hc1 HG
      simp only [strV] at hc1
      clear hlx
      cases he : y.toList == x.toList
      · have HE := Lib.hid he
        go_wp2
        go_round
        case rel => exact ⟨k + 1, by omega, by go_num, Lib.hid (by rw [any_snoc HG.out, hinv.out, HE.out]; rfl)⟩
        case measure => simp [intOf]; omega
      · have HE := Lib.hid he
        go_wp2
        go_ret
        exact ⟨ret_bool (anyT_found HG.out HE.out).symm, rfl⟩
    · go_wp2
      go_ret
      exact ⟨ret_bool (anyT_none (by rw [Hn.out]; omega) hinv.out).symm, rfl⟩
set_option maxHeartbeats 800000 in
theorem slices_Index_str (A : Option Addr) (c : Nat) (xs : List ByteArray) (x : ByteArray) (w : World) (hr : Reads w w.heap.size A (xs.map strV)) (hm : xs.length ≤ 140737488351232) :
    Calls Try.prog 101 #[.slice A xs.length c, .string x] w fun e w' => ∃ z : Int, e = .returned (.int .i64 z) ∧ decide (0 ≤ z) = hasT xs x ∧ w = w' := by
  generalize hn : xs.length = n at hm
  have Hn := Lib.hid hn
  clear hn
  go_enter Try.func101, Try.ntmps101
  go_wp2
  go_loop [8] (fun i => ∃ k : Nat, k ≤ n ∧ i = .int .i64 k ∧ Hid ((xs.take k).any (fun y => y.toList == x.toList) = false)) (fun i => n - (intOf i).toNat)
  case atStart => exact ⟨0, Nat.zero_le _, rfl, Lib.hid rfl⟩
  case round =>
    obtain ⟨k, hk, rfl, hinv⟩ := hrel
    by_cases hlt : k < n
    · have hlx : k < xs.length := by rw [Hn.out]; exact hlt
      obtain ⟨b, off, rfl, hab, hc1⟩ := hr.at_ (by simpa using hlx) (Below.refl _ _) (Nat.le_refl _)
      rw [List.getElem_map] at hc1
      have HG := Lib.hid (List.getElem?_eq_getElem hlx)
      generalize xs[k]'hlx = y at hc1 HG
      simp only [strV] at hc1
      clear hlx
      cases he : x.toList == y.toList
      · have HE : Hid ((y.toList == x.toList) = false) := Lib.hid (by rw [toList_comm, he])
        go_wp2
        go_round
        case rel => exact ⟨k + 1, by omega, by go_num, Lib.hid (by rw [any_snoc HG.out, hinv.out, HE.out]; rfl)⟩
        case measure => simp [intOf]; omega
      · have HE : Hid ((y.toList == x.toList) = true) := Lib.hid (by rw [toList_comm, he])
        go_wp2
        go_ret
        exact ⟨k, rfl, by unfold hasT; rw [anyT_found HG.out HE.out]; simp, rfl⟩
    · go_wp2
      go_ret
      exact ⟨-1, rfl, by unfold hasT; rw [anyT_none (by rw [Hn.out]; omega) hinv.out]; rfl, rfl⟩
theorem slices_Contains_str (A : Option Addr) (c : Nat) (xs : List ByteArray) (x : ByteArray) (w : World) (hr : Reads w w.heap.size A (xs.map strV)) (hm : xs.length ≤ 140737488351232) :
    Calls Try.prog 89 #[.slice A xs.length c, .string x] w fun e w' => e = .returned (.bool (hasT xs x)) ∧ w = w' := by
  have HC := Lib.hid (slices_Index_str A c xs x w hr hm)
  generalize xs.length = n at *
  clear hr hm
  go_enter Try.func89, Try.ntmps89
  go_wp2_with fail
  refine HC.out.mono ?_
  rintro e w' ⟨z, rfl, hz, rfl⟩
  have HZ := Lib.hid hz
  clear hz
  go_wp2
  go_ret
  exact ⟨ret_bool HZ.out, rfl⟩
/-- Whether a text of the first list is not in the second. -/
def missT (xs ps : List ByteArray) : Bool := xs.any (fun y => !hasT ps y)
theorem impl_makeToken_1 (An : Option Addr) (cn : Nat) (ps : List ByteArray) (b : ByteArray) (g : Nat) (w : World) (hc : w.cell? ⟨g, 2, none⟩ = some (.slice An ps.length cn)) (hr : Reads w w.heap.size An (ps.map strV)) (hm : ps.length ≤ 140737488351232) :
    Calls Try.prog 88 #[.string b, .pointer (some ⟨g, 0, none⟩)] w fun e w' => e = .returned (.bool (!hasT ps b)) ∧ w = w' := by
  have HC := Lib.hid (slices_Contains_str An cn ps b w hr hm)
  generalize ps.length = n at *
  clear hr hm
  go_enter Try.func88, Try.ntmps88
  go_wp2_with fail
  refine HC.out.mono ?_
  rintro e w' ⟨rfl, rfl⟩
  go_wp2
  go_ret
  exact ⟨rfl, rfl⟩
set_option maxHeartbeats 800000 in
theorem slices_IndexFunc_make (A : Option Addr) (c : Nat) (xs : List ByteArray) (p : Addr) (pr : ByteArray → Bool) (w : World) (hr : Reads w w.heap.size A (xs.map strV)) (hm : xs.length ≤ 140737488351232)
    (hK : ∀ b : ByteArray, Calls Try.prog 88 #[.string b, .pointer (some p)] w fun e w' => e = .returned (.bool (pr b)) ∧ w = w') :
    Calls Try.prog 100 #[.slice A xs.length c, .func (.func 88) #[] #[.pointer (some p)]] w fun e w' => ∃ z : Int, e = .returned (.int .i64 z) ∧ decide (0 ≤ z) = xs.any pr ∧ w = w' := by
  have HK := Lib.hid (fun (x : ByteArray) (b : Bool) (hb : pr x = b) => (hb ▸ hK x : Calls Try.prog 88 #[.string x, .pointer (some p)] w fun e w' => e = .returned (.bool b) ∧ w = w'))
  clear hK
  generalize hn : xs.length = n at hm
  have Hn := Lib.hid hn
  clear hn
  go_enter Try.func100, Try.ntmps100
  go_wp2
  go_loop [8] (fun i => ∃ k : Nat, k ≤ n ∧ i = .int .i64 k ∧ Hid ((xs.take k).any pr = false)) (fun i => n - (intOf i).toNat)
  case atStart => exact ⟨0, Nat.zero_le _, rfl, Lib.hid rfl⟩
  case round =>
    obtain ⟨k, hk, rfl, hinv⟩ := hrel
    by_cases hlt : k < n
    · have hlx : k < xs.length := by rw [Hn.out]; exact hlt
      obtain ⟨b, off, rfl, hab, hc1⟩ := hr.at_ (by simpa using hlx) (Below.refl _ _) (Nat.le_refl _)
      rw [List.getElem_map] at hc1
      have HG := Lib.hid (List.getElem?_eq_getElem hlx)
      generalize xs[k]'hlx = y at hc1 HG
      simp only [strV] at hc1
      clear hlx
      cases he : pr y
      · have HE := Lib.hid he
        clear he
        go_wp2_with fail
        refine (HK.out _ _ HE.out).mono ?_
        rintro e w' ⟨rfl, rfl⟩
        go_wp2
        go_round
        case rel => exact ⟨k + 1, by omega, by go_num, Lib.hid (by rw [any_snoc HG.out, hinv.out, HE.out]; rfl)⟩
        case measure => simp [intOf]; omega
      · have HE := Lib.hid he
        clear he
        go_wp2_with fail
        refine (HK.out _ _ HE.out).mono ?_
        rintro e w' ⟨rfl, rfl⟩
        go_wp2
        go_ret
        exact ⟨k, rfl, by rw [anyT_found HG.out HE.out]; simp, rfl⟩
    · go_wp2
      go_ret
      exact ⟨-1, rfl, by rw [anyT_none (by rw [Hn.out]; omega) hinv.out]; rfl, rfl⟩
theorem slices_ContainsFunc_make (A : Option Addr) (c : Nat) (xs : List ByteArray) (p : Addr) (pr : ByteArray → Bool) (w : World) (hr : Reads w w.heap.size A (xs.map strV)) (hm : xs.length ≤ 140737488351232)
    (hK : ∀ b : ByteArray, Calls Try.prog 88 #[.string b, .pointer (some p)] w fun e w' => e = .returned (.bool (pr b)) ∧ w = w') :
    Calls Try.prog 87 #[.slice A xs.length c, .func (.func 88) #[] #[.pointer (some p)]] w fun e w' => e = .returned (.bool (xs.any pr)) ∧ w = w' := by
  have HC := Lib.hid (slices_IndexFunc_make A c xs p pr w hr hm hK)
  generalize xs.length = n at *
  clear hr hm hK
  go_enter Try.func87, Try.ntmps87
  go_wp2_with fail
  refine HC.out.mono ?_
  rintro e w' ⟨z, rfl, hz, rfl⟩
  have HZ := Lib.hid hz
  clear hz
  go_wp2
  go_ret
  exact ⟨ret_bool HZ.out, rfl⟩
end Go.Proofs.Ytialceppopjhaaa

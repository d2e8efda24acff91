/- Names: isName, areNames of the program; l01Name, l08Names of the reference. -/
import Derived.Test.YtoijmnnjcoogkaaDoorOrd
import Derived.Test.YtoijmnnjcoogkaaDoorStringS2
import Derived.Lib.Bytealg
import Derived.Lib.Strings
import Derived.Lib.Walk
set_option linter.unusedSimpArgs false
set_option linter.unusedVariables false
set_option maxRecDepth 20000
namespace Go.Proofs.YtoijmnnjcoogkaaDoor
open Go.RowKit
def nameByte (b : UInt8) : Bool := (decide (97 ≤ b.toNat) && decide (b.toNat ≤ 122)) || (decide (48 ≤ b.toNat) && decide (b.toNat ≤ 57))
theorem nameByte_iff {b : UInt8} : nameByte b = true ↔ (97 ≤ (b.toNat : Int) ∧ (b.toNat : Int) ≤ 122) ∨ (48 ≤ (b.toNat : Int) ∧ (b.toNat : Int) ≤ 57) := by
  simp only [nameByte, Bool.or_eq_true, Bool.and_eq_true, decide_eq_true_eq]; omega
def nameBytes : List UInt8 := [97, 98, 99, 100, 101, 102, 103, 104, 105, 106, 107, 108, 109, 110, 111, 112, 113, 114, 115, 116, 117, 118, 119, 120, 121, 122, 48, 49, 50, 51, 52, 53, 54, 55, 56, 57]
theorem idx_all : ∀ n : Fin 256, decide (Lib.indexByte nameBytes (UInt8.ofNat n.val) < 0) = !nameByte (UInt8.ofNat n.val) := by decide +kernel
theorem idx_name (b : UInt8) : decide (Lib.indexByte nameBytes b < 0) = !nameByte b := by
  have := idx_all ⟨b.toNat, b.toNat_lt⟩
  simpa using this
def strAll (p : UInt8 → Bool) (s : ByteArray) : Bool := s.data.toList.all p
theorem strAll_stop {p : UInt8 → Bool} {s : ByteArray} {k : Nat} {x : UInt8} (h : s.data.toList[k]? = some x) (hp : p x = false) : strAll p s = false := by
  unfold strAll
  rw [List.all_eq_false]
  exact ⟨x, List.mem_of_getElem? h, by simp [hp]⟩
theorem strAll_done {p : UInt8 → Bool} {s : ByteArray} {k : Nat} (hk : s.size ≤ k) (h : (s.data.toList.take k).all p = true) : strAll p s = true := by
  rw [List.take_of_length_le (by rw [Array.length_toList]; exact hk)] at h; exact h
def nameOk (s : ByteArray) : Bool := withinB s.size 1 12 && strAll nameByte s
set_option maxHeartbeats 1000000 in
set_option maxRecDepth 100000 in
theorem stringslite_IndexByte (s : ByteArray) (c : Int) (w : World) :
    Calls Tryd.prog 76 #[.string s, .int .u8 c] w fun e w' => e = .returned (.int .i64 (Lib.indexByte s.data.toList c.toNat.toUInt8)) ∧ w = w' := by
  go_enter Tryd.func76, Tryd.ntmps76
  go_wp2
  rw [run_callFunc_extern Tryd.func81 (by kernel_rfl) (by kernel_rfl) (by kernel_rfl) (e := Extern.BytealgIndexByte.indexByte) (by kernel_rfl), Lib.run_indexByteString]
  simp only [Result.andThen]
  rw [Oper.upon_value]
  go_wp2
  go_ret
  exact ⟨rfl, rfl⟩
theorem strings_IndexByte (s : ByteArray) (c : Int) (w : World) :
    Calls Tryd.prog 72 #[.string s, .int .u8 c] w fun e w' => e = .returned (.int .i64 (Lib.indexByte s.data.toList c.toNat.toUInt8)) ∧ w = w' := by
  go_enter Tryd.func72, Tryd.ntmps72
  go_wp2_with (go_at_call 76; refine (stringslite_IndexByte _ _ _).mono ?_; rintro e w' ⟨rfl, rfl⟩)
  go_ret
  exact ⟨rfl, rfl⟩
theorem all_snoc {α : Type} {p : α → Bool} {xs : List α} {k : Nat} {x : α} (h : xs[k]? = some x) : (xs.take (k + 1)).all p = ((xs.take k).all p && p x) := by rw [take_snoc h, List.all_append]; simp
theorem all_stop {α : Type} {p : α → Bool} {xs : List α} {k : Nat} {x : α} (h : xs[k]? = some x) (hp : p x = false) : xs.all p = false := by
  rw [List.all_eq_false]
  exact ⟨x, List.mem_of_getElem? h, by simp [hp]⟩
theorem all_done {α : Type} {p : α → Bool} {xs : List α} {k : Nat} (hk : xs.length ≤ k) (h : (xs.take k).all p = true) : xs.all p = true := by rwa [List.take_of_length_le hk] at h
set_option maxHeartbeats 800000 in
theorem impl_onlyOf (s al : ByteArray) (p : UInt8 → Bool) (hp : ∀ b, decide (Lib.indexByte al.data.toList b < 0) = !p b) (hs : s.size ≤ 9223372036854775807) (w : World) :
    Calls Tryd.prog 70 #[.string s, .string al] w fun e w' => e = .returned (.bool (strAll p s)) ∧ w = w' := by
  have HP := Lib.hid hp
  clear hp
  go_enter Tryd.func70, Tryd.ntmps70
  go_wp2
  go_loop [8] (fun i => ∃ k : Nat, k ≤ s.size ∧ i = .int .i64 k ∧ Hid ((s.data.toList.take k).all p = true)) (fun i => s.size - (intOf i).toNat)
  case atStart => exact ⟨0, Nat.zero_le _, rfl, Lib.hid rfl⟩
  case round =>
    obtain ⟨k, hk, rfl, hinv⟩ := hrel
    by_cases hlt : k < s.size
    · have HG : Hid (s.data.toList[k]? = some s[k]) := Lib.hid (by rw [List.getElem?_eq_getElem (by simpa using hlt)]; rfl)
      cases hb : p s[k]
      · have hd : decide (Lib.indexByte al.data.toList s[k] < 0) = true := by rw [HP.out, hb]; rfl
        have hd2 : decide (Lib.indexByte al.data.toList ((s[k].toNat : Int).toNat.toUInt8) < 0) = true := by simpa using hd
        have HB := Lib.hid hb
        clear hb
        go_wp2_with (go_at_call 72; refine (strings_IndexByte _ _ _).mono ?_; rintro e w' ⟨rfl, rfl⟩)
        go_ret
        exact ⟨ret_bool (strAll_stop HG.out HB.out).symm, rfl⟩
      · have hd : decide (Lib.indexByte al.data.toList s[k] < 0) = false := by rw [HP.out, hb]; rfl
        have hd2 : decide (Lib.indexByte al.data.toList ((s[k].toNat : Int).toNat.toUInt8) < 0) = false := by simpa using hd
        have HB := Lib.hid hb
        clear hb
        go_wp2_with (go_at_call 72; refine (strings_IndexByte _ _ _).mono ?_; rintro e w' ⟨rfl, rfl⟩)
        go_round
        case rel => exact ⟨k + 1, by omega, by go_num, Lib.hid (by rw [all_snoc HG.out, hinv.out, HB.out]; rfl)⟩
        case measure => simp [intOf]; omega
    · go_wp2
      go_ret
      exact ⟨ret_bool (strAll_done (Nat.not_lt.1 hlt) hinv.out).symm, rfl⟩
theorem impl_isName (s : ByteArray) (hs : s.size ≤ 9223372036854775807) (w : World) : Calls Tryd.prog 62 #[.string s] w fun e w' => e = .returned (.bool (nameOk s)) ∧ w = w' := by
  have HO := Lib.hid (fun (al : ByteArray) (h : al.data.toList = nameBytes) (w : World) => impl_onlyOf s al nameByte (by intro b; rw [h]; exact idx_name b) hs w)
  cases h : withinB s.size 1 12
  · have HR : Hid (nameOk s = false) := Lib.hid (by unfold nameOk; rw [h]; rfl)
    go_enter Tryd.func62, Tryd.ntmps62
    go_wp2_with (first | (go_at_call 59; refine (impl_within_b h _).mono ?_; rintro e w' ⟨rfl, rfl⟩) | (go_at_call 70; refine (HO.out _ rfl _).mono ?_; rintro e w' ⟨rfl, rfl⟩))
    go_ret
    exact ⟨ret_bool (by rw [HR.out]), rfl⟩
  · have HR : Hid (nameOk s = strAll nameByte s) := Lib.hid (by unfold nameOk; rw [h]; rfl)
    go_enter Tryd.func62, Tryd.ntmps62
    go_wp2_with (first | (go_at_call 59; refine (impl_within_b h _).mono ?_; rintro e w' ⟨rfl, rfl⟩) | (go_at_call 70; refine (HO.out _ rfl _).mono ?_; rintro e w' ⟨rfl, rfl⟩))
    go_ret
    exact ⟨ret_bool (by rw [HR.out]), rfl⟩
set_option maxHeartbeats 1600000 in
theorem spec_l01Name (s : ByteArray) (hs : s.size ≤ 9223372036854775807) (w : World) : Calls Tryd.prog 54 #[.string s] w fun e w' => e = .returned (.bool (nameOk s)) ∧ w = w' := by
  go_enter Tryd.func54, Tryd.ntmps54
  go_wp2
  go_loop [3] (fun i => ∃ k : Nat, k ≤ s.size ∧ i = .int .i64 k ∧ Hid ((s.data.toList.take k).all nameByte = true)) (fun i => s.size - (intOf i).toNat)
  case atStart => exact ⟨0, Nat.zero_le _, rfl, Lib.hid rfl⟩
  case round =>
    obtain ⟨k, hk, rfl, hinv⟩ := hrel
    by_cases hlt : k < s.size
    · have HG : Hid (s.data.toList[k]? = some s[k]) := Lib.hid (by rw [List.getElem?_eq_getElem (by simpa using hlt)]; rfl)
      go_wp2
      all_goals first
        | (have hb : nameByte s[k] = false := by
            cases hq : nameByte s[k] with
            | false => rfl
            | true =>
              exfalso
              rw [nameByte_iff] at hq
              try simp only [Bool.not_eq_true', decide_eq_false_iff_not, decide_eq_true_eq] at *
              omega
           go_ret
           exact ⟨ret_bool (by unfold nameOk; rw [strAll_stop HG.out hb, Bool.and_false]), rfl⟩)
        | (have hb : nameByte s[k] = true := by
            rw [nameByte_iff]
            try simp only [Bool.not_eq_false', decide_eq_false_iff_not, decide_eq_true_eq] at *
            omega
           go_round
           case rel => exact ⟨k + 1, by omega, by go_num, Lib.hid (by rw [all_snoc HG.out, hinv.out, hb]; rfl)⟩
           case measure => simp [intOf]; omega)
    · have HA : Hid (strAll nameByte s = true) := Lib.hid (strAll_done (Nat.not_lt.1 hlt) hinv.out)
      go_wp2_with (go_at_call 56; refine (spec_l01In _ _ _ _).mono ?_; rintro e w' ⟨rfl, rfl⟩)
      go_ret
      exact ⟨ret_bool (by unfold nameOk; rw [HA.out, Bool.and_true]), rfl⟩
end Go.Proofs.YtoijmnnjcoogkaaDoor

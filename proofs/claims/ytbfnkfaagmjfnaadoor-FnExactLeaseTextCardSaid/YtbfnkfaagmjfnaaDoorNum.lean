/- l01Num of the reference: the decimal text of a number. -/
import Derived.Test.YtbfnkfaagmjfnaaDoorStringS2
import Derived.Lib.ItoaNum
set_option linter.unusedSimpArgs false
set_option linter.unusedVariables false
set_option maxRecDepth 20000
namespace Go.Proofs.YtbfnkfaagmjfnaaDoor
open Go.RowKit
theorem digs_short : ∀ (e k : Nat) (acc : List UInt8), k < 10 ^ e → (digs k acc).length ≤ acc.length + e
  | 0, k, acc, h => by
    obtain rfl : k = 0 := by simpa using h
    rw [digs_zero]; omega
  | e + 1, k, acc, h => by
    rcases Nat.eq_zero_or_pos k with rfl | h0
    · rw [digs_zero]; omega
    · rw [digs_more h0]
      have := digs_short e (k / 10) (UInt8.ofNat (48 + k % 10) :: acc) (by rw [Nat.pow_succ] at h; omega)
      simp only [List.length_cons] at this
      omega
theorem digs_dec (k : Nat) : ∀ acc, 0 < k → digs k acc = Lib.decDigits k ++ acc := by
  induction k using Nat.strongRecOn with
  | _ k ih =>
    intro acc h
    rw [digs_more h, Lib.decDigits]
    by_cases h10 : k < 10
    · rw [dif_pos h10]
      have h1 : k / 10 = 0 := by omega
      have h2 : k % 10 = k := by omega
      rw [h1, digs_zero, h2]; rfl
    · rw [dif_neg h10, ih (k / 10) (by omega) _ (by omega), List.append_assoc]; rfl
def numS (n : Int) : ByteArray := ⟨(Lib.itoa n).toArray⟩
theorem numS_pos {K : Nat} (h : 0 < K) : numS (K : Int) = ⟨(digs K []).toArray⟩ := by
  unfold numS Lib.itoa
  rw [if_neg (by omega), Int.toNat_natCast, digs_dec K [] h, List.append_nil]
theorem numS_neg {K : Nat} (h : 0 < K) : numS (-(K : Int)) = ⟨(45 :: digs K []).toArray⟩ := by
  unfold numS Lib.itoa
  rw [if_pos (by omega), Int.natAbs_neg, Int.natAbs_natCast, digs_dec K [] h, List.append_nil]
theorem numS_zero : numS 0 = ⟨#[48]⟩ := by
  unfold numS Lib.itoa
  rw [if_neg (by omega)]
  show (⟨(Lib.decDigits 0).toArray⟩ : ByteArray) = _
  rw [Lib.decDigits, dif_pos (by omega)]
  rfl
set_option maxHeartbeats 1600000 in
theorem spec_l01Num_pos (K : Nat) (w : World) (h0 : 0 < K) (hK : K ≤ 9223372036854775807) :
    Calls Tryd.prog 29 #[.int .i64 K] w fun e w' => e = .returned (.string (numS K)) ∧ Below w.heap.size w w' := by
  have HF := Lib.hid (numS_pos h0)
  generalize numS (K : Int) = ns at *
  go_enter Tryd.func29, Tryd.ntmps29
  have hd0 : ((K : Int) == 0) = false := by rw [beq_eq_false_iff_ne]; omega
  have hd1 : decide ((K : Int) < 0) = false := by simp
  go_wp2
  go_loopw [0, 3] (fun t o wr => ∃ (k : Nat) (es : List UInt8), t = .int .i64 k ∧ o = .string ⟨es.toArray⟩ ∧ k ≤ 9223372036854775807 ∧ Hid (digs k es = digs K []) ∧ Below w.heap.size w wr) (fun t _ _ => (intOf t).toNat)
  case atStart => exact ⟨K, [], rfl, rfl, hK, rfl, Below.refl _ _⟩
  case round =>
    obtain ⟨k, es, rfl, rfl, hk2, he, hb⟩ := hrel
    have hzr := hb.size
    have hel : es.length ≤ 100 := by
      have hle := digs_ge k es
      have hle2 := digs_short 20 K [] (by omega)
      rw [he.out] at hle
      simp only [List.length_nil] at hle2
      omega
    by_cases hlt : 0 < k
    · have HD := Lib.hid (digs_more hlt es)
      have hd2 : ((k : Int) == 0) = false := by rw [beq_eq_false_iff_ne]; omega
      have HC : (convert 66 9 (.slice (some ⟨wr.heap.size, 0, none⟩) 1 1)).run Tryd.prog (wr.alloc (.cells #[.int .u8 (48 + (k : Int) % 10)] 5)) = .ok (.string ⟨#[UInt8.ofNat (48 + k % 10)]⟩) (wr.alloc (.cells #[.int .u8 (48 + (k : Int) % 10)] 5)) :=
        run_convert_bytes_back (P := Tryd.prog) (wr.alloc (.cells #[.int .u8 (48 + (k : Int) % 10)] 5)) 66 9 5 ⟨wr.heap.size, 0, none⟩ 1 [UInt8.ofNat (48 + k % 10)] Tryd.underlying66 Tryd.underlying5 Tryd.underlying9 (by
          intro j hj
          obtain rfl : j = 0 := by simpa using hj
          rw [addr_add_none]
          have h1 := (Blk.new wr 5 #[.int .u8 (48 + (k : Int) % 10)]).cell 0
          rw [Nat.zero_add, h1]
          simp
          omega)
      go_wp2
      go_roundw
      case rel => exact ⟨k / 10, UInt8.ofNat (48 + k % 10) :: es, by go_num, by first | rfl | (rw [show (48 : UInt8) + UInt8.ofNat (k % 10) = UInt8.ofNat (48 + k % 10) by simp]; rfl), by omega, by rw [← HD.out]; exact he, by (repeat (first | (with_reducible exact Below.refl _ _) | (with_reducible assumption) | ((with_reducible refine Below.setCell ?_ ?_ _); rotate_left; focus (first | omega | (simp; done) | (simp; omega))) | ((with_reducible refine Below.alloc ?_ ?_ _); rotate_left; focus (first | omega | (simp; done) | (simp; omega))) | (with_reducible refine Below.drew ?_) | (with_reducible refine below_drewN ?_ _) | (refine Below.trans ?_ (Below.mono (by with_reducible assumption) (by (first | omega | (simp; done) | (simp; omega)))))))⟩
      case measure => simp [intOf]; omega
    · obtain rfl : k = 0 := by omega
      have HE := Lib.hid (digs_zero es)
      go_wp2
      go_ret
      exact ⟨by rw [HF.out, ← he.out, HE.out]; rfl, hb⟩
set_option maxHeartbeats 1600000 in
theorem spec_l01Num_neg (K : Nat) (w : World) (h0 : 0 < K) (hK : K ≤ 9223372036854775808) :
    Calls Tryd.prog 29 #[.int .i64 (-(K : Int))] w fun e w' => e = .returned (.string (numS (-(K : Int)))) ∧ Below w.heap.size w w' := by
  have HF := Lib.hid (numS_neg h0)
  generalize numS (-(K : Int)) = ns at *
  go_enter Tryd.func29, Tryd.ntmps29
  have hd0 : (-(K : Int) == 0) = false := by rw [beq_eq_false_iff_ne]; omega
  have hd1 : decide (-(K : Int) < 0) = true := by simp; omega
  go_wp2
  go_loopw [0, 3] (fun t o wr => ∃ (k : Nat) (es : List UInt8), t = .int .i64 (-(k : Int)) ∧ o = .string ⟨es.toArray⟩ ∧ k ≤ 9223372036854775808 ∧ Hid (digs k es = digs K []) ∧ Below w.heap.size w wr) (fun t _ _ => (-(intOf t)).toNat)
  case atStart => exact ⟨K, [], rfl, rfl, hK, rfl, Below.refl _ _⟩
  case round =>
    obtain ⟨k, es, rfl, rfl, hk2, he, hb⟩ := hrel
    have hzr := hb.size
    have hel : es.length ≤ 100 := by
      have hle := digs_ge k es
      have hle2 := digs_short 20 K [] (by omega)
      rw [he.out] at hle
      simp only [List.length_nil] at hle2
      omega
    by_cases hlt : 0 < k
    · have HD := Lib.hid (digs_more hlt es)
      have hd2 : (-(k : Int) == 0) = false := by rw [beq_eq_false_iff_ne]; omega
      have hd3 : (-(k : Int) != 0) = true := by simp; omega
      by_cases hm : (0 : Int) < (k : Int) % 10
      · have hmd : decide ((0 : Int) < (k : Int) % 10) = true := by simpa using hm
        have HC : (convert 66 9 (.slice (some ⟨wr.heap.size, 0, none⟩) 1 1)).run Tryd.prog (wr.alloc (.cells #[.int .u8 (48 + (k : Int) % 10)] 5)) = .ok (.string ⟨#[UInt8.ofNat (48 + k % 10)]⟩) (wr.alloc (.cells #[.int .u8 (48 + (k : Int) % 10)] 5)) :=
          run_convert_bytes_back (P := Tryd.prog) (wr.alloc (.cells #[.int .u8 (48 + (k : Int) % 10)] 5)) 66 9 5 ⟨wr.heap.size, 0, none⟩ 1 [UInt8.ofNat (48 + k % 10)] Tryd.underlying66 Tryd.underlying5 Tryd.underlying9 (by
            intro j hj
            obtain rfl : j = 0 := by simpa using hj
            rw [addr_add_none]
            have h1 := (Blk.new wr 5 #[.int .u8 (48 + (k : Int) % 10)]).cell 0
            rw [Nat.zero_add, h1]
            simp
            omega)
        go_wp2
        go_roundw
        case rel => exact ⟨k / 10, UInt8.ofNat (48 + k % 10) :: es, by go_num, by first | rfl | (rw [show (48 : UInt8) + UInt8.ofNat (k % 10) = UInt8.ofNat (48 + k % 10) by simp]; rfl), by omega, by rw [← HD.out]; exact he, by (repeat (first | (with_reducible exact Below.refl _ _) | (with_reducible assumption) | ((with_reducible refine Below.setCell ?_ ?_ _); rotate_left; focus (first | omega | (simp; done) | (simp; omega))) | ((with_reducible refine Below.alloc ?_ ?_ _); rotate_left; focus (first | omega | (simp; done) | (simp; omega))) | (with_reducible refine Below.drew ?_) | (with_reducible refine below_drewN ?_ _) | (refine Below.trans ?_ (Below.mono (by with_reducible assumption) (by (first | omega | (simp; done) | (simp; omega)))))))⟩
        case measure => simp [intOf]; omega
      · have hmd : decide ((0 : Int) < (k : Int) % 10) = false := by simpa using hm
        have HC : (convert 66 9 (.slice (some ⟨wr.heap.size, 0, none⟩) 1 1)).run Tryd.prog (wr.alloc (.cells #[.int .u8 (48 + -((k : Int) % 10))] 5)) = .ok (.string ⟨#[UInt8.ofNat (48 + k % 10)]⟩) (wr.alloc (.cells #[.int .u8 (48 + -((k : Int) % 10))] 5)) :=
          run_convert_bytes_back (P := Tryd.prog) (wr.alloc (.cells #[.int .u8 (48 + -((k : Int) % 10))] 5)) 66 9 5 ⟨wr.heap.size, 0, none⟩ 1 [UInt8.ofNat (48 + k % 10)] Tryd.underlying66 Tryd.underlying5 Tryd.underlying9 (by
            intro j hj
            obtain rfl : j = 0 := by simpa using hj
            rw [addr_add_none]
            have h1 := (Blk.new wr 5 #[.int .u8 (48 + -((k : Int) % 10))]).cell 0
            rw [Nat.zero_add, h1]
            simp
            omega)
        go_wp2
        go_roundw
        case rel => exact ⟨k / 10, UInt8.ofNat (48 + k % 10) :: es, by go_num, by first | rfl | (rw [show (48 : UInt8) + UInt8.ofNat (k % 10) = UInt8.ofNat (48 + k % 10) by simp]; rfl), by omega, by rw [← HD.out]; exact he, by (repeat (first | (with_reducible exact Below.refl _ _) | (with_reducible assumption) | ((with_reducible refine Below.setCell ?_ ?_ _); rotate_left; focus (first | omega | (simp; done) | (simp; omega))) | ((with_reducible refine Below.alloc ?_ ?_ _); rotate_left; focus (first | omega | (simp; done) | (simp; omega))) | (with_reducible refine Below.drew ?_) | (with_reducible refine below_drewN ?_ _) | (refine Below.trans ?_ (Below.mono (by with_reducible assumption) (by (first | omega | (simp; done) | (simp; omega)))))))⟩
        case measure => simp [intOf]; omega
    · obtain rfl : k = 0 := by omega
      have HE := Lib.hid (digs_zero es)
      go_wp2
      go_ret
      exact ⟨by rw [HF.out, ← he.out, HE.out]; rfl, hb⟩
theorem spec_l01Num (n : Int) (w : World) (h1 : -9223372036854775808 ≤ n) (h2 : n ≤ 9223372036854775807) :
    Calls Tryd.prog 29 #[.int .i64 n] w fun e w' => e = .returned (.string (numS n)) ∧ Below w.heap.size w w' := by
  rcases Int.lt_trichotomy n 0 with h | rfl | h
  · obtain ⟨K, rfl⟩ : ∃ K : Nat, n = -(K : Int) := ⟨n.natAbs, by omega⟩
    exact spec_l01Num_neg K w (by omega) (by omega)
  · have HF := Lib.hid numS_zero
    generalize numS 0 = ns at *
    go_enter Tryd.func29, Tryd.ntmps29
    go_wp2
    go_ret
    exact ⟨by rw [HF.out]; rfl, Below.refl _ _⟩
  · obtain ⟨K, rfl⟩ : ∃ K : Nat, n = (K : Int) := ⟨n.toNat, by omega⟩
    exact spec_l01Num_pos K w (by omega) (by omega)
end Go.Proofs.YtbfnkfaagmjfnaaDoor

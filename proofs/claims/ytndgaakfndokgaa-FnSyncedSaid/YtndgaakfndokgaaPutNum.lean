/- Numbers as bytes: putNum, PutNum. -/
import Derived.Test.YtndgaakfndokgaaByteS
import Derived.Test.YtndgaakfndokgaaImplWithin
set_option linter.unusedSimpArgs false
set_option linter.unusedVariables false
set_option maxRecDepth 20000
namespace Go.Proofs.Ytndgaakfndokgaa
open Go.RowKit
/-- The number that stands for x in bytes. -/
def zig (x : Int) : Nat := if x < 0 then (-2 * x - 1).toNat else (2 * x).toNat
/-- The bytes of a number. -/
def numB (u : Nat) : List UInt8 := if u < 128 then [UInt8.ofNat u] else UInt8.ofNat (128 + u % 128) :: numB (u / 128)
termination_by u
decreasing_by omega
theorem numB_small {u : Nat} (h : u < 128) : numB u = [UInt8.ofNat u] := by rw [numB, if_pos h]
theorem numB_more {u : Nat} (h : 128 ≤ u) : numB u = UInt8.ofNat (128 + u % 128) :: numB (u / 128) := by rw [numB, if_neg (by omega)]
theorem numB_len (u : Nat) : 0 < (numB u).length ∧ (numB u).length ≤ u + 1 := by
  induction u using Nat.strongRecOn with
  | _ u ih =>
    rcases Nat.lt_or_ge u 128 with h | h
    · rw [numB_small h]; simp
    · rw [numB_more h]
      have := ih (u / 128) (by omega)
      simp only [List.length_cons]
      omega
theorem zig_le {x : Int} (h1 : -1099511627776 ≤ x) (h2 : x ≤ 1099511627776) : zig x ≤ 2199023255552 := by unfold zig; split <;> omega
theorem zig_neg {x : Int} (h : x < 0) : ((zig x : Nat) : Int) = -2 * x - 1 := by unfold zig; rw [if_pos h]; omega
theorem zig_pos {x : Int} (h : 0 ≤ x) : ((zig x : Nat) : Int) = 2 * x := by unfold zig; rw [if_neg (by omega)]; omega
theorem byteV_ofNat {n : Nat} (h : n < 256) : byteV (UInt8.ofNat n) = .int .u8 n := by
  simp [byteV, UInt8.toNat_ofNat']
  omega
theorem wraps_i64 (n : Int) (h₀ : 0 ≤ n) (h₁ : n < 2 ^ 63) : IntKind.i64.wrap n = n := by rw [IntKind.wrap_i64]; omega
theorem low7 {us : Nat} (h : us ≤ 2199023255552) : bits .or .i64 (bits .and .i64 (us : Int) 127) 128 % 256 = ((128 + us % 128 : Nat) : Int) := by
  have e1 : bits .and .i64 (us : Int) 127 = (us : Int) % 128 := bits_mask .i64 63 (by decide) wraps_i64 7 (by decide) us (by omega) (by omega)
  have e2 : bits .or .i64 ((us % 128 : Nat) : Int) ((128 : Nat) : Int) = ((us % 128 ||| 128 : Nat) : Int) := (bits_nat .i64 63 (by decide) wraps_i64 (us % 128) 128 (by omega) (by omega)).2
  have e3 : us % 128 ||| 128 = 128 + us % 128 := by
    rw [Nat.or_comm]
    exact (Nat.two_pow_add_eq_or_of_lt (i := 7) (by omega) 1).symm
  rw [e1, show (us : Int) % 128 = ((us % 128 : Nat) : Int) by omega, show (128 : Int) = ((128 : Nat) : Int) from rfl, e2, e3]
  omega
set_option maxHeartbeats 1600000 in
theorem impl_putNum (B : Nat) (A : Option Addr) (c : Nat) (ds : List UInt8) (x : Int) (w : World) (ho : w.ownsRow B 5 1 (.slice A ds.length c) ds.length (ds.map byteV)) (hB : B ≤ w.heap.size) (hx1 : -1099511627776 ≤ x) (hx2 : x ≤ 1099511627776) (hm : ds.length ≤ 1073741824) :
    Calls Try.prog 48 #[.slice A ds.length c, .int .i64 x] w fun e w' => ∃ A1 c1, e = .returned (.slice (some A1) (ds ++ numB (zig x)).length c1) ∧ w'.ownsRow B 5 1 (.slice (some A1) (ds ++ numB (zig x)).length c1) (ds ++ numB (zig x)).length ((ds ++ numB (zig x)).map byteV) ∧ Below B w w' := by
  obtain ⟨i0, hi0, hz0, hz1, hz2⟩ := info_parts info_uint8
  go_enter Try.func48, Try.ntmps48
  by_cases hneg : x < 0
  all_goals
    go_wp2
    go_loopw [0, 5] (fun o u wr => ∃ (us : Nat) (es : List UInt8) (A1 : Option Addr) (c1 : Nat), o = .slice A1 es.length c1 ∧ u = .int .i64 us ∧ wr.ownsRow B 5 1 (.slice A1 es.length c1) es.length (es.map byteV) ∧ Below B w wr ∧ w.heap.size ≤ wr.heap.size ∧ us ≤ 2199023255552 ∧ Hid (es ++ numB us = ds ++ numB (zig x))) (fun _ u _ => (intOf u).toNat)
    case atStart => exact ⟨zig x, ds, A, c, rfl, by first | (rw [zig_neg hneg]; done) | (rw [zig_pos hneg]; done) | (rw [zig_neg hneg]; go_num) | (rw [zig_pos hneg]; go_num), ho, Below.refl _ _, Nat.le_refl _, zig_le hx1 hx2, rfl⟩
    case round =>
      obtain ⟨us, es, A1, c1, rfl, rfl, hown, hb, hzr, hus, he⟩ := hrel
      have hle : es.length ≤ ds.length + 2199023255553 := by
        have h1 := congrArg List.length he.out
        have h2 := (numB_len (zig x)).2
        have h3 := zig_le hx1 hx2
        simp only [List.length_append] at h1
        omega
      by_cases hlt : 127 < us
      · have HE : bits .or .i64 (bits .and .i64 (us : Int) 127) 128 % 256 = ((128 + us % 128 : Nat) : Int) := low7 hus
        have HV := Lib.hid ((byteV_ofNat (n := 128 + us % 128) (by omega)).trans (by simp) : byteV (UInt8.ofNat (128 + us % 128)) = .int .u8 (128 + (us : Int) % 128))
        go_wp2_with (first | (at_builtin; go_loud (refine wpList_append_own_at _ rfl _ _ 22 rfl B 5 i0 (.int .u8 0) 1 1 Try.underlying22 hi0 hz0 hz1 hz2 rfl (by decide) _ _ _ rfl (hown.alloc _) ⟨wr.heap.size, 0, none⟩ 1 1 [byteV (UInt8.ofNat (128 + us % 128))] rfl rfl ?c1 ?c2 ?c3 ?c4 ?c5 ?_; (case c1 => (rw [HV.out]; exact cell_one_new _ _ _)); (case c2 => simp [byteV, Value.oneCell']); (case c3 => (simp only [maxLen]; omega)); (case c4 => omega); (case c5 => (simp; omega)); intro v' w1 hown1 hgrow hnil hat; obtain ⟨gg, cap, rfl, hg1, hg2⟩ := hown1.form (by omega))))
        go_roundw
        case rel =>
          have hsz := hgrow.size
          simp at hsz
          refine ⟨us / 128, es ++ [UInt8.ofNat (128 + us % 128)], some ⟨gg, 0, none⟩, cap, by simp, ?_, by simpa using hown1, ?_, by omega, by omega, Lib.hid (by rw [← he.out, numB_more (u := us) (by omega), List.append_assoc]; rfl)⟩
          · first | rfl | go_num | (simp; omega)
          · exact Below.grown (hb.alloc (by omega) _) hgrow (by simp; omega) (fun g e => (hown.lt _ e).1)
        case measure => simp [intOf]; omega
      · have HV := Lib.hid (byteV_ofNat (n := us) (by omega))
        have HE : (us : Int) % 256 = us := by omega
        go_wp2_with (first | (at_builtin; go_loud (refine wpList_append_own_at _ rfl _ _ 22 rfl B 5 i0 (.int .u8 0) 1 1 Try.underlying22 hi0 hz0 hz1 hz2 rfl (by decide) _ _ _ rfl (hown.alloc _) ⟨wr.heap.size, 0, none⟩ 1 1 [byteV (UInt8.ofNat us)] rfl rfl ?c1 ?c2 ?c3 ?c4 ?c5 ?_; (case c1 => (rw [HV.out]; exact cell_one_new _ _ _)); (case c2 => simp [byteV, Value.oneCell']); (case c3 => (simp only [maxLen]; omega)); (case c4 => omega); (case c5 => (simp; omega)); intro v' w1 hown1 hgrow hnil hat; obtain ⟨gg, cap, rfl, hg1, hg2⟩ := hown1.form (by omega))))
        have HL := Lib.hid (show ds ++ numB (zig x) = es ++ [UInt8.ofNat us] by rw [← he.out, numB_small (u := us) (by omega)])
        go_ret
        refine ⟨⟨gg, 0, none⟩, cap, ?_, ?_, ?_⟩
        · rw [HL.out, List.length_append]; rfl
        · rw [HL.out]; simpa using hown1
        · exact Below.grown (hb.alloc (by omega) _) hgrow (by simp; omega) (fun g e => (hown.lt _ e).1)
/-- The bytes that PutNum answers: none where the number is out of reach. -/
def putB (x : Int) : List UInt8 := match withinB x (-1099511627776) 1099511627776 with | true => numB (zig x) | false => []
theorem putB_in {x : Int} (h : withinB x (-1099511627776) 1099511627776 = true) : putB x = numB (zig x) := by unfold putB; rw [h]
theorem putB_out {x : Int} (h : withinB x (-1099511627776) 1099511627776 = false) : putB x = [] := by unfold putB; rw [h]
set_option maxRecDepth 4000 in
set_option maxHeartbeats 1600000 in
theorem spec_PutNum (x : Int) (w : World) :
    Calls Try.prog 29 #[.int .i64 x] w fun e w' => ∃ A1 c1, e = .returned (.slice A1 (putB x).length c1) ∧ w'.ownsRow w.heap.size 5 1 (.slice A1 (putB x).length c1) (putB x).length ((putB x).map byteV) ∧ Below w.heap.size w w' := by
  obtain ⟨i0, hi0, hz0, hz1, hz2⟩ := info_parts info_uint8
  cases hx : withinB x (-1099511627776) 1099511627776
  · rw [putB_out hx]
    go_enter Try.func29, Try.ntmps29
    go_wp2_with (go_at_call 45; refine (spec_l01In_b hx _).mono ?_; rintro e w' ⟨rfl, rfl⟩)
    go_ret
    exact ⟨none, 0, rfl, World.ownsRow_nil _ _ _ _, by (repeat (first | (with_reducible exact Below.refl _ _) | (with_reducible assumption) | ((with_reducible refine Below.setCell ?_ ?_ _); rotate_left; focus (first | omega | (simp; done) | (simp; omega))) | ((with_reducible refine Below.alloc ?_ ?_ _); rotate_left; focus (first | omega | (simp; done) | (simp; omega))) | (with_reducible refine Below.drew ?_) | (with_reducible refine below_drewN ?_ _) | (refine Below.trans ?_ (Below.mono (by with_reducible assumption) (by (first | omega | (simp; done) | (simp; omega)))))))⟩
  · rw [putB_in hx]
    obtain ⟨hx1, hx2⟩ := withinB_iff.1 hx
    go_enter Try.func29, Try.ntmps29
    by_cases hneg : x < 0
    all_goals
      go_wp2_with (go_at_call 45; refine (spec_l01In_b hx _).mono ?_; rintro e w' ⟨rfl, rfl⟩)
      go_loopw [3, 4] (fun o u wr => ∃ (us : Nat) (es : List UInt8) (A1 : Option Addr) (c1 : Nat), o = .slice A1 es.length c1 ∧ u = .int .i64 us ∧ wr.ownsRow w.heap.size 5 1 (.slice A1 es.length c1) es.length (es.map byteV) ∧ Below w.heap.size w wr ∧ w.heap.size ≤ wr.heap.size ∧ us ≤ 2199023255552 ∧ Hid (es ++ numB us = numB (zig x))) (fun _ u _ => (intOf u).toNat)
      case atStart => exact ⟨zig x, [], some ⟨w.heap.size, 0, none⟩, 0, rfl, by first | (rw [zig_neg hneg]; done) | (rw [zig_pos hneg]; done) | (rw [zig_neg hneg]; go_num) | (rw [zig_pos hneg]; go_num), World.ownsRow_lit w #[] 0 (Nat.le_refl _) (by simp [maxLen]) rfl, by (repeat (first | (with_reducible exact Below.refl _ _) | (with_reducible assumption) | ((with_reducible refine Below.setCell ?_ ?_ _); rotate_left; focus (first | omega | (simp; done) | (simp; omega))) | ((with_reducible refine Below.alloc ?_ ?_ _); rotate_left; focus (first | omega | (simp; done) | (simp; omega))) | (with_reducible refine Below.drew ?_) | (with_reducible refine below_drewN ?_ _) | (refine Below.trans ?_ (Below.mono (by with_reducible assumption) (by (first | omega | (simp; done) | (simp; omega))))))), by simp, zig_le hx1 hx2, rfl⟩
      case round =>
        obtain ⟨us, es, A1, c1, rfl, rfl, hown, hb, hzr, hus, he⟩ := hrel
        have hle : es.length ≤ 2199023255553 := by
          have h1 := congrArg List.length he.out
          have h2 := (numB_len (zig x)).2
          have h3 := zig_le hx1 hx2
          simp only [List.length_append] at h1
          omega
        by_cases hlt : 128 ≤ us
        · have HV := Lib.hid ((byteV_ofNat (n := 128 + us % 128) (by omega)).trans (by simp) : byteV (UInt8.ofNat (128 + us % 128)) = .int .u8 (128 + (us : Int) % 128))
          have HE : (128 + (us : Int) % 128) % 256 = 128 + (us : Int) % 128 := by omega
          have HR : Int.tmod (us : Int) 128 = (us : Int) % 128 := by rw [Int.tmod_eq_emod_of_nonneg (by omega)]
          have HD : Int.tdiv (us : Int) 128 = (us : Int) / 128 := by rw [Int.tdiv_eq_ediv_of_nonneg (by omega)]
          go_wp2_with (first | (at_builtin; go_loud (refine wpList_append_own_at _ rfl _ _ 22 rfl w.heap.size 5 i0 (.int .u8 0) 1 1 Try.underlying22 hi0 hz0 hz1 hz2 rfl (by decide) _ _ _ rfl (hown.alloc _) ⟨wr.heap.size, 0, none⟩ 1 1 [byteV (UInt8.ofNat (128 + us % 128))] rfl rfl ?c1 ?c2 ?c3 ?c4 ?c5 ?_; (case c1 => (rw [HV.out]; exact cell_one_new _ _ _)); (case c2 => simp [byteV, Value.oneCell']); (case c3 => (simp only [maxLen]; omega)); (case c4 => omega); (case c5 => (simp; omega)); intro v' w1 hown1 hgrow hnil hat; obtain ⟨gg, cap, rfl, hg1, hg2⟩ := hown1.form (by omega))))
          go_roundw
          case rel =>
            have hsz := hgrow.size
            simp at hsz
            refine ⟨us / 128, es ++ [UInt8.ofNat (128 + us % 128)], some ⟨gg, 0, none⟩, cap, by simp, ?_, by simpa using hown1, ?_, by omega, by omega, Lib.hid (by rw [← he.out, numB_more (u := us) (by omega), List.append_assoc]; rfl)⟩
            · first | rfl | go_num | (simp; omega)
            · exact Below.grown (hb.alloc (by omega) _) hgrow (by simp; omega) (fun g e => (hown.lt _ e).1)
          case measure => simp [intOf]; omega
        · have HV := Lib.hid (byteV_ofNat (n := us) (by omega))
          have HE : (us : Int) % 256 = us := by omega
          go_wp2_with (first | (at_builtin; go_loud (refine wpList_append_own_at _ rfl _ _ 22 rfl w.heap.size 5 i0 (.int .u8 0) 1 1 Try.underlying22 hi0 hz0 hz1 hz2 rfl (by decide) _ _ _ rfl (hown.alloc _) ⟨wr.heap.size, 0, none⟩ 1 1 [byteV (UInt8.ofNat us)] rfl rfl ?c1 ?c2 ?c3 ?c4 ?c5 ?_; (case c1 => (rw [HV.out]; exact cell_one_new _ _ _)); (case c2 => simp [byteV, Value.oneCell']); (case c3 => (simp only [maxLen]; omega)); (case c4 => omega); (case c5 => (simp; omega)); intro v' w1 hown1 hgrow hnil hat; obtain ⟨gg, cap, rfl, hg1, hg2⟩ := hown1.form (by omega))))
          have HL := Lib.hid (show numB (zig x) = es ++ [UInt8.ofNat us] by rw [← he.out, numB_small (u := us) (by omega)])
          go_ret
          refine ⟨some ⟨gg, 0, none⟩, cap, ?_, ?_, ?_⟩
          · rw [HL.out, List.length_append]; rfl
          · rw [HL.out]; simpa using hown1
          · exact Below.grown (hb.alloc (by omega) _) hgrow (by simp; omega) (fun g e => (hown.lt _ e).1)
end Go.Proofs.Ytndgaakfndokgaa

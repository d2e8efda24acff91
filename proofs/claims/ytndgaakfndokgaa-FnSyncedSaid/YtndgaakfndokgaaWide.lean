/- A number in so many bytes, the greatest first: bigEndian, l05Wide. -/
import Derived.Test.YtndgaakfndokgaaBytes
import Derived.Test.YtndgaakfndokgaaPutNum
set_option linter.unusedSimpArgs false
set_option linter.unusedVariables false
set_option maxRecDepth 20000
namespace Go.Proofs.Ytndgaakfndokgaa
open Go.RowKit
def wideB (x : Nat) : Nat → List UInt8
  | 0 => []
  | n + 1 => UInt8.ofNat (x / 256 ^ n % 256) :: wideB x n
theorem wideB_len (x : Nat) : ∀ n, (wideB x n).length = n
  | 0 => rfl
  | n + 1 => by rw [wideB, List.length_cons, wideB_len x n]
theorem wide_byte (x q : Nat) : byteV (UInt8.ofNat (x / 256 ^ q % 256)) = .int .u8 ((x : Int) / 2 ^ (8 * q) % 256) := by
  rw [byteV_ofNat (Nat.mod_lt _ (by omega))]
  have e : (256 : Nat) ^ q = 2 ^ (8 * q) := by rw [Nat.pow_mul]
  rw [e, Int.natCast_emod, Int.natCast_ediv, Int.natCast_pow]
  rfl
set_option maxHeartbeats 1600000 in
theorem impl_bigEndian (B : Nat) (A : Option Addr) (c : Nat) (ds : List UInt8) (x m : Nat) (w : World) (ho : w.ownsRow B 5 1 (.slice A ds.length c) ds.length (ds.map byteV)) (hB : B ≤ w.heap.size) (hx : x ≤ 4294967296) (hn : m ≤ 4) (hm : ds.length ≤ 1073741824) :
    Calls Try.prog 52 #[.slice A ds.length c, .int .i64 x, .int .i64 m] w fun e w' => ∃ A1 c1, e = .returned (.slice A1 (ds ++ wideB x m).length c1) ∧ w'.ownsRow B 5 1 (.slice A1 (ds ++ wideB x m).length c1) (ds ++ wideB x m).length ((ds ++ wideB x m).map byteV) ∧ Below B w w' := by
  obtain ⟨i0, hi0, hI0, hI1, hI2⟩ := info_parts info_uint8
  go_enter Try.func52, Try.ntmps52
  go_wp2
  go_loopw [0, 7] (fun o i wr => ∃ (j : Nat) (es : List UInt8) (A1 : Option Addr) (c1 : Nat), j ≤ m ∧ i = .int .i64 ((j : Int) - 1) ∧ o = .slice A1 es.length c1 ∧ es.length ≤ ds.length + 4 - j ∧ wr.ownsRow B 5 1 (.slice A1 es.length c1) es.length (es.map byteV) ∧ Below B w wr ∧ w.heap.size ≤ wr.heap.size ∧ Hid (es ++ wideB x j = ds ++ wideB x m)) (fun _ i _ => (intOf i + 1).toNat)
  case atStart => exact ⟨m, ds, A, c, Nat.le_refl _, by go_num, rfl, by omega, ho, Below.refl _ _, Nat.le_refl _, rfl⟩
  case round =>
    obtain ⟨j, es, A1, c1, hj, rfl, rfl, hle, hown, hb, hzr, he⟩ := hrel
    cases j with
    | zero =>
      go_wp2
      go_ret
      have hE : es = ds ++ wideB x m := by have := he.out; simpa [wideB] using this
      rw [← hE]
      exact ⟨A1, c1, rfl, hown, hb⟩
    | succ q =>
      have hq : ((q + 1 : Nat) : Int) - 1 = (q : Int) := by omega
      rw [hq]
      clear hq
      have HB := wide_byte x q
      have hnn : (0 : Int) ≤ (x : Int) / 2 ^ (8 * q) := Int.ediv_nonneg (by omega) (Int.pow_nonneg (by omega))
      have hle0 : (x : Int) / 2 ^ (8 * q) ≤ 4294967296 := Int.le_trans (Int.ediv_le_self _ (by omega)) (by omega)
      obtain ⟨X, hX⟩ : ∃ X : Int, X = (x : Int) / 2 ^ (8 * q) := ⟨_, rfl⟩
      rw [← hX] at HB hnn hle0
      obtain ⟨vv, hvv⟩ : ∃ vv : Int, vv = X % 256 := ⟨_, rfl⟩
      rw [← hvv] at HB
      have hX' := hX.symm
      have HBh := Lib.hid HB
      have hv : X % 256 = vv := hvv.symm
      clear HB hvv hX hle0 hnn
      have HW : Hid (es ++ [UInt8.ofNat (x / 256 ^ q % 256)] ++ wideB x q = ds ++ wideB x m) := Lib.hid (by rw [← he.out, wideB, List.append_assoc]; rfl)
      clear he
      go_wp2_with (first | (at_builtin; go_loud (refine wpList_append_own_at _ rfl _ _ 22 rfl (B) 5 i0 (.int .u8 0) 1 1 Try.underlying22 hi0 hI0 hI1 hI2 rfl (by decide) _ _ _ rfl (hown.alloc _) ⟨(wr).heap.size, 0, none⟩ 1 1 [.int .u8 vv] rfl rfl ?c1 ?c2 ?c3 ?c4 ?c5 ?_; (case c1 => exact cell_one_new _ _ _); (case c2 => simp [Value.oneCell']); (case c3 => (simp only [maxLen]; omega)); (case c4 => omega); (case c5 => (simp; omega)); intro v' wA hown1 hgrow hnil hat; obtain ⟨gg, cap, rfl, hg1, hg2⟩ := hown1.form (by omega))))
      go_roundw
      case rel =>
        have hsz := hgrow.size
        simp at hsz
        refine ⟨q, es ++ [UInt8.ofNat (x / 256 ^ q % 256)], some ⟨gg, 0, none⟩, cap, by omega, by rfl, by rw [List.length_append]; rfl, by rw [List.length_append, List.length_singleton]; omega, ?_, ?_, by omega, HW⟩
        · rw [List.map_append, List.length_append, List.map_cons, List.map_nil, HBh.out]; exact hown1
        · exact Below.grown (hb.alloc (by omega) _) hgrow (by simp; omega) (fun g e => (hown.lt _ e).1)
      case measure => first | (simp [intOf]; done) | (simp [intOf]; omega)
set_option maxHeartbeats 1600000 in
theorem spec_l05Wide (x m : Nat) (w : World) (hx : x ≤ 4294967296) (hn : m ≤ 4) :
    Calls Try.prog 39 #[.int .i64 x, .int .i64 m] w fun e w' => ∃ A1 c1, e = .returned (.slice A1 (wideB x m).length c1) ∧ w'.ownsRow w.heap.size 5 1 (.slice A1 (wideB x m).length c1) (wideB x m).length ((wideB x m).map byteV) ∧ Below w.heap.size w w' := by
  obtain ⟨i0, hi0, hI0, hI1, hI2⟩ := info_parts info_uint8
  go_enter Try.func39, Try.ntmps39
  go_wp2
  go_loopw [5, 6] (fun o i wr => ∃ (j : Nat) (es : List UInt8) (A1 : Option Addr) (c1 : Nat), j ≤ m ∧ i = .int .i64 ((j : Int) - 1) ∧ o = .slice A1 es.length c1 ∧ es.length ≤ 4 - j ∧ wr.ownsRow w.heap.size 5 1 (.slice A1 es.length c1) es.length (es.map byteV) ∧ Below w.heap.size w wr ∧ w.heap.size ≤ wr.heap.size ∧ Hid (es ++ wideB x j = wideB x m)) (fun _ i _ => (intOf i + 1).toNat)
  case atStart => exact ⟨m, [], some ⟨w.heap.size, 0, none⟩, 0, Nat.le_refl _, by go_num, rfl, by simp, World.ownsRow_lit w #[] 0 (Nat.le_refl _) (by simp [maxLen]) rfl, by (repeat (first | (with_reducible exact Below.refl _ _) | (with_reducible assumption) | ((with_reducible refine Below.setCell ?_ ?_ _); rotate_left; focus (first | omega | (simp; done) | (simp; omega))) | ((with_reducible refine Below.alloc ?_ ?_ _); rotate_left; focus (first | omega | (simp; done) | (simp; omega))) | (with_reducible refine Below.drew ?_) | (with_reducible refine below_drewN ?_ _) | (refine Below.trans ?_ (Below.mono (by with_reducible assumption) (by (first | omega | (simp; done) | (simp; omega))))))), by simp, rfl⟩
  case round =>
    obtain ⟨j, es, A1, c1, hj, rfl, rfl, hle, hown, hb, hzr, he⟩ := hrel
    cases j with
    | zero =>
      go_wp2
      go_ret
      have hE : es = wideB x m := by have := he.out; simpa [wideB] using this
      rw [← hE]
      exact ⟨A1, c1, rfl, hown, hb⟩
    | succ q =>
      have hq : ((q + 1 : Nat) : Int) - 1 = (q : Int) := by omega
      rw [hq]
      clear hq
      have HB := wide_byte x q
      have hnn : (0 : Int) ≤ (x : Int) / 2 ^ (8 * q) := Int.ediv_nonneg (by omega) (Int.pow_nonneg (by omega))
      have hle0 : (x : Int) / 2 ^ (8 * q) ≤ 4294967296 := Int.le_trans (Int.ediv_le_self _ (by omega)) (by omega)
      obtain ⟨X, hX⟩ : ∃ X : Int, X = (x : Int) / 2 ^ (8 * q) := ⟨_, rfl⟩
      rw [← hX] at HB hnn hle0
      obtain ⟨vv, hvv⟩ : ∃ vv : Int, vv = X % 256 := ⟨_, rfl⟩
      rw [← hvv] at HB
      have hX' := hX.symm
      have HBh := Lib.hid HB
      have hv : X % 256 = vv := hvv.symm
      have hand : bits .and .i64 X 255 = X % 256 := by
        obtain ⟨Y, rfl⟩ := Int.eq_ofNat_of_zero_le hnn
        exact bits_mask .i64 63 (by decide) wraps_i64 8 (by decide) Y (by omega) (by omega)
      have hand2 : bits .and .i64 X 255 % 256 = vv := by rw [hand, ← hv]; omega
      clear hand hv
      clear HB hvv hX hle0 hnn
      have HW : Hid (es ++ [UInt8.ofNat (x / 256 ^ q % 256)] ++ wideB x q = wideB x m) := Lib.hid (by rw [← he.out, wideB, List.append_assoc]; rfl)
      clear he
      go_wp2_with (first | (at_builtin; go_loud (refine wpList_append_own_at _ rfl _ _ 22 rfl (w.heap.size) 5 i0 (.int .u8 0) 1 1 Try.underlying22 hi0 hI0 hI1 hI2 rfl (by decide) _ _ _ rfl (hown.alloc _) ⟨(wr).heap.size, 0, none⟩ 1 1 [.int .u8 vv] rfl rfl ?c1 ?c2 ?c3 ?c4 ?c5 ?_; (case c1 => exact cell_one_new _ _ _); (case c2 => simp [Value.oneCell']); (case c3 => (simp only [maxLen]; omega)); (case c4 => omega); (case c5 => (simp; omega)); intro v' wA hown1 hgrow hnil hat; obtain ⟨gg, cap, rfl, hg1, hg2⟩ := hown1.form (by omega))))
      go_roundw
      case rel =>
        have hsz := hgrow.size
        simp at hsz
        refine ⟨q, es ++ [UInt8.ofNat (x / 256 ^ q % 256)], some ⟨gg, 0, none⟩, cap, by omega, by rfl, by rw [List.length_append]; rfl, by rw [List.length_append, List.length_singleton]; omega, ?_, ?_, by omega, HW⟩
        · rw [List.map_append, List.length_append, List.map_cons, List.map_nil, HBh.out]; exact hown1
        · exact Below.grown (hb.alloc (by omega) _) hgrow (by simp; omega) (fun g e => (hown.lt _ e).1)
      case measure => first | (simp [intOf]; done) | (simp [intOf]; omega)
end Go.Proofs.Ytndgaakfndokgaa

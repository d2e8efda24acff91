/- FnExactPutNum: the walk of the law. -/
import Derived.Test.YtollfgpheonakaaPutNum
namespace Go.Proofs.Ytollfgpheonakaa
open Go.RowKit
theorem numB_short : ∀ k u : Nat, u < 128 ^ (k + 1) → (numB u).length ≤ k + 1
  | 0, u, h => by rw [numB_small (by simpa using h)]; simp
  | k + 1, u, h => by
    rcases Nat.lt_or_ge u 128 with h1 | h1
    · rw [numB_small h1]; simp
    · rw [numB_more h1]
      have := numB_short k (u / 128) (Nat.div_lt_of_lt_mul (by rw [Nat.pow_succ] at h; omega))
      simp only [List.length_cons]
      omega
theorem putB_short (x : Int) : (putB x).length ≤ 6 := by
  cases hx : withinB x (-1099511627776) 1099511627776
  · rw [putB_out hx]; simp
  · rw [putB_in hx]
    have h := withinB_iff.1 hx
    have := zig_le h.1 h.2
    exact numB_short 5 _ (by omega)
set_option maxHeartbeats 1600000 in
theorem law_FnExactPutNum (x : Int) (w : World) :
    Calls Try.prog 3 #[.int .i64 x] w fun e w' => e = .returned (.bool true) ∧ Below w.heap.size w w' := by
  have hl := putB_short x
  go_enter Try.func3, Try.ntmps3
  go_wp2_with fail
  refine (spec_PutNum _ _).mono ?_
  rintro e w1 ⟨A1, c1, rfl, ho1, hb1⟩
  have hz1 := hb1.size; try simp at hz1
  go_wp2_with fail
  refine (impl_PutNum _ _).mono ?_
  rintro e w2 ⟨A2, c2, rfl, ho2, hb2⟩
  have hz2 := hb2.size; try simp at hz2
  go_wp2_with fail
  refine (laws_eqByteS_b _ _ _ _ _ _ _ (Reads.of_own ho2) (Reads.of_own (own_below ho1 hb2)) (by omega) (by omega)).mono ?_
  rintro e w3 ⟨rfl, hb3⟩
  have hz3 := hb3.size; try simp at hz3
  have hM := laws_markByteS A2 c2 w1.heap.size w3.heap.size 1 ((putB x).map byteV) w3 (Win.of_own (own_below ho2 hb3)) (by rw [List.length_map]; omega) (by omega)
  have hW1 := ((Win.of_own ho1).below hb2 (Nat.le_refl _)).below hb3 hz2
  rw [List.length_map] at hM
  have HM := Lib.hid hM
  clear hM
  go_wp2_with fail
  refine HM.out.mono ?_
  rintro e w4 ⟨rfl, hW4, hO4⟩
  clear HM
  have hz4 := hO4.size
  have hb4 : Below w.heap.size w3 w4 := hO4.below (by omega) (fun k hk => by have := hk.1; omega)
  have hW1' := hW1.out hO4 (fun g h1 h2 h3 => by have := h3.1; omega) (by omega)
  go_wp2_with fail
  refine (laws_heldByteS _ _ 1 _ _ (hW4.reads.more hz4) (by omega) (by omega)).mono ?_
  rintro e w5 ⟨rfl, hb5⟩
  have hz5 := hb5.size; try simp at hz5
  go_wp2_with fail
  refine (impl_PutNum _ _).mono ?_
  rintro e w6 ⟨A6, c6, rfl, ho6, hb6⟩
  have hz6 := hb6.size; try simp at hz6
  have hW1'' := (hW1'.below hb5 (by omega)).below hb6 (by omega)
  go_wp2_with fail
  refine (laws_eqByteS_b _ _ _ _ _ _ _ (Reads.of_own ho6) (hW1''.reads.more (by omega)) (by omega) (by omega)).mono ?_
  rintro e w7 ⟨rfl, hb7⟩
  have hz7 := hb7.size; try simp at hz7
  have hW7 := ((hW4.below hb5 (by omega)).below hb6 (by omega)).below hb7 (by omega)
  go_wp2_with fail
  refine (laws_heldByteS _ _ 1 _ _ (hW7.reads.more (by omega)) (by omega) (by omega)).mono ?_
  rintro e w8 ⟨rfl, hb8⟩
  go_wp2
  go_ret
  exact ⟨rfl, by (repeat (first | (with_reducible exact Below.refl _ _) | (with_reducible assumption) | ((with_reducible refine Below.setCell ?_ ?_ _); rotate_left; focus (first | omega | (simp; done) | (simp; omega))) | ((with_reducible refine Below.alloc ?_ ?_ _); rotate_left; focus (first | omega | (simp; done) | (simp; omega))) | (with_reducible refine Below.drew ?_) | (with_reducible refine below_drewN ?_ _) | (refine Below.trans ?_ (Below.mono (by with_reducible assumption) (by (first | omega | (simp; done) | (simp; omega)))))))⟩
end Go.Proofs.Ytollfgpheonakaa

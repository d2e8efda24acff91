/- The tag and the masked data, of the program. -/
import Derived.Test.YtlncnicpiadaaaaImplBox
import Derived.Test.YtlncnicpiadaaaaBytes
import Derived.Laws.BitsAllLaws
set_option linter.unusedSimpArgs false
set_option linter.unusedVariables false
set_option maxRecDepth 20000
namespace Go.Proofs.Ytlncnicpiadaaaa
open Go.RowKit
theorem xor_u8 (s d : UInt8) : bits .xor .u8 (s.toNat : Int) (d.toNat : Int) = (((s ^^^ d : UInt8).toNat : Nat) : Int) := by
  rw [u8_xor_nat _ _ s.toNat_lt d.toNat_lt]
  rfl
set_option maxHeartbeats 1600000 in
theorem impl_tagOf (K N : Nat) (A : Option Addr) (c : Nat) (xs : List UInt8) (w : World) (hr : Reads w w.heap.size A (xs.map byteV)) (hK : K ≤ 1099511627776) (hN : N ≤ 1099511627776) (hm : xs.length ≤ 1048576) :
    Calls Try.prog 75 #[.int .i64 K, .int .i64 N, .slice A xs.length c] w fun e w' => e = .returned (.int .i64 (tagL K N xs)) ∧ Below w.heap.size w w' := by
  unfold tagL
  have HL1 := Lib.hid (wide_len K)
  have HL2 := Lib.hid (wide_len N)
  have HP1 := Lib.hid (fun w => impl_putWide K w hK)
  have HP2 := Lib.hid (fun w => impl_putWide N w hN)
  generalize wideB K = x1 at *
  generalize wideB N = x2 at *
  have hp : pieces [(none, 0, x1), (none, 0, x2), (none, 0, xs)] = x1 ++ x2 ++ xs := by simp [pieces]
  have hpl : (x1 ++ x2 ++ xs).length ≤ 1073741824 := by simp [HL1.out, HL2.out]; omega
  have HP := Lib.hid hp
  have HPL := Lib.hid hpl
  clear hp hpl
  go_enter Try.func75, Try.ntmps75
  go_wp2_with fail
  refine (HP1.out _).mono ?_
  rintro e w1 ⟨A1, c1, rfl, ho1, hb1⟩
  have hz1 := hb1.size; try simp at hz1
  go_wp2_with fail
  refine (HP2.out _).mono ?_
  rintro e w2 ⟨A2, c2, rfl, ho2, hb2⟩
  have hz2 := hb2.size; try simp at hz2
  have hr1 := (Reads.of_own ho1).keep hb2 hb2.size
  have hr2 := Reads.of_own ho2
  have hr3 := hr.keep (hb1.trans (hb2.mono (by omega))) (by omega)
  go_wp2_with fail
  refine (slices_Concat_byte _ _ [(A1, c1, x1), (A2, c2, x2), (A, c, xs)] _ ?_ ?_ (by simp) ?_).mono ?_
  · have := Reads.of_blk (Blk.new' (w := w2) (g := w2.heap.size) (t := 25) (cs := #[.slice A1 8 c1, .slice A2 8 c2, .slice A xs.length c]) rfl)
    simpa [Piece.val, HL1.out, HL2.out] using this
  · intro r hr'
    simp only [List.mem_cons, List.not_mem_nil, or_false] at hr'
    rcases hr' with rfl | rfl | rfl
    · exact hr1.keep (by (repeat (first | (with_reducible exact Below.refl _ _) | (with_reducible assumption) | ((with_reducible refine Below.setCell ?_ ?_ _); rotate_left; focus (first | omega | (simp; done) | (simp; omega))) | ((with_reducible refine Below.alloc ?_ ?_ _); rotate_left; focus (first | omega | (simp; done) | (simp; omega))) | (with_reducible refine Below.drew ?_) | (with_reducible refine below_drewN ?_ _) | (refine Below.trans ?_ (Below.mono (by with_reducible assumption) (by (first | omega | (simp; done) | (simp; omega)))))))) (by first | omega | (simp; done) | (simp; omega))
    · exact hr2.keep (by (repeat (first | (with_reducible exact Below.refl _ _) | (with_reducible assumption) | ((with_reducible refine Below.setCell ?_ ?_ _); rotate_left; focus (first | omega | (simp; done) | (simp; omega))) | ((with_reducible refine Below.alloc ?_ ?_ _); rotate_left; focus (first | omega | (simp; done) | (simp; omega))) | (with_reducible refine Below.drew ?_) | (with_reducible refine below_drewN ?_ _) | (refine Below.trans ?_ (Below.mono (by with_reducible assumption) (by (first | omega | (simp; done) | (simp; omega)))))))) (by first | omega | (simp; done) | (simp; omega))
    · exact hr3.keep (by (repeat (first | (with_reducible exact Below.refl _ _) | (with_reducible assumption) | ((with_reducible refine Below.setCell ?_ ?_ _); rotate_left; focus (first | omega | (simp; done) | (simp; omega))) | ((with_reducible refine Below.alloc ?_ ?_ _); rotate_left; focus (first | omega | (simp; done) | (simp; omega))) | (with_reducible refine Below.drew ?_) | (with_reducible refine below_drewN ?_ _) | (refine Below.trans ?_ (Below.mono (by with_reducible assumption) (by (first | omega | (simp; done) | (simp; omega)))))))) (by first | omega | (simp; done) | (simp; omega))
  · have := HPL.out; have h2 := HP.out; simp only [pieces] at h2 ⊢; simpa [h2] using this
  · rintro e w3 ⟨A3, c3, rfl, ho3, hb3⟩
    rw [show pieces [(A1, c1, x1), (A2, c2, x2), (A, c, xs)] = x1 ++ x2 ++ xs from HP.out] at ho3 ⊢
    have hr4 := Reads.of_own ho3
    have HPL' := HPL.out
    obtain ⟨zs, hz⟩ : ∃ zs, x1 ++ x2 ++ xs = zs := ⟨_, rfl⟩
    rw [hz] at ho3 hr4 HPL' ⊢
    have HZ := Lib.hid hz
    clear hz
    go_wp2_with fail
    refine (impl_digest A3 c3 zs _ (hr4.keep (by (repeat (first | (with_reducible exact Below.refl _ _) | (with_reducible assumption) | ((with_reducible refine Below.setCell ?_ ?_ _); rotate_left; focus (first | omega | (simp; done) | (simp; omega))) | ((with_reducible refine Below.alloc ?_ ?_ _); rotate_left; focus (first | omega | (simp; done) | (simp; omega))) | (with_reducible refine Below.drew ?_) | (with_reducible refine below_drewN ?_ _) | (refine Below.trans ?_ (Below.mono (by with_reducible assumption) (by (first | omega | (simp; done) | (simp; omega)))))))) (by first | omega | (simp; done) | (simp; omega))) HPL').mono ?_
    rintro e w4 ⟨rfl, rfl⟩
    go_wp2
    go_ret
    exact ⟨ret_int (by rw [HZ.out]), by (repeat (first | (with_reducible exact Below.refl _ _) | (with_reducible assumption) | ((with_reducible refine Below.setCell ?_ ?_ _); rotate_left; focus (first | omega | (simp; done) | (simp; omega))) | ((with_reducible refine Below.alloc ?_ ?_ _); rotate_left; focus (first | omega | (simp; done) | (simp; omega))) | (with_reducible refine Below.drew ?_) | (with_reducible refine below_drewN ?_ _) | (refine Below.trans ?_ (Below.mono (by with_reducible assumption) (by (first | omega | (simp; done) | (simp; omega)))))))⟩
set_option maxHeartbeats 1600000 in
theorem impl_crossed (K N : Nat) (A : Option Addr) (c : Nat) (xs : List UInt8) (w : World) (hr : Reads w w.heap.size A (xs.map byteV)) (hK : K ≤ 1099511627776) (hN : N ≤ 1099511627776) (hm : xs.length ≤ 2000) :
    Calls Try.prog 76 #[.int .i64 K, .int .i64 N, .slice A xs.length c] w fun e w' => ∃ A1 c1, e = .returned (.slice A1 xs.length c1) ∧ w'.ownsRow w.heap.size 5 1 (.slice A1 xs.length c1) xs.length ((maskB K N xs).map byteV) ∧ Below w.heap.size w w' := by
  have HS := Lib.hid (fun w => impl_stream K N xs.length w hK hN hm)
  have HA := Lib.hid (fun k d h => mask_at (K := K) (N := N) (data := xs) (k := k) (d := d) h)
  have HB := Lib.hid (fun k (h : k < xs.length) => stream_at (K := K) (N := N) h)
  have HL := Lib.hid (mask_len K N xs)
  have HM := Lib.hid (stream_len K N xs.length)
  generalize maskB K N xs = ys at *
  generalize streamB K N xs.length = ss at *
  generalize hn : xs.length = n at *
  have Hn := Lib.hid hn
  clear hn
  go_enter Try.func76, Try.ntmps76
  go_wp2_with fail
  refine (HS.out _).mono ?_
  rintro e w1 ⟨A1, c1, rfl, ho1, hb1⟩
  have hz1 := hb1.size; try simp at hz1
  go_wp2
  go_loopw [17] (fun i wr => ∃ k : Nat, k ≤ n ∧ i = .int .i64 k ∧ wr.ownsRow w.heap.size 5 1 (.slice A1 n c1) n ((ys.take k ++ ss.drop k).map byteV) ∧ Below w.heap.size w wr) (fun i _ => n - (intOf i).toNat)
  case atStart => exact ⟨0, Nat.zero_le _, rfl, by simpa using ho1, hb1⟩
  case round =>
    obtain ⟨k, hk, rfl, ho, hb⟩ := hrel
    by_cases hlt : k < n
    · have hlx : k < (xs.map byteV).length := by simpa [Hn.out] using hlt
      obtain ⟨g, off, rfl, hab, hc1⟩ := hr.at_ hlx hb (Nat.le_refl _)
      obtain ⟨d, hx1, hx2, hx3⟩ := map_at byteV xs k hlx
      rw [hx1] at hc1
      simp only [byteV] at hc1
      have hy := HA.out k d hx3
      have hs := HB.out k hlt
      generalize strB K N k = s at *
      have hks : k < ss.length := by rw [HM.out]; exact hlt
      have hky : k < ys.length := by rw [HL.out]; exact hlt
      have he : ((ys.take k ++ ss.drop k).map byteV)[k]? = some (byteV s) := by
        rw [List.getElem?_map, List.getElem?_append_right (by simp; omega), List.length_take, Nat.min_eq_left (Nat.le_of_lt hky), Nat.sub_self, List.getElem?_drop, Nat.add_zero, hs]; rfl
      have hset : ((ys.take k ++ ss.drop k).map byteV).set k (byteV (s ^^^ d)) = (ys.take (k + 1) ++ ss.drop (k + 1)).map byteV := by
        rw [take_snoc hy, ← List.map_set, List.set_append_right _ _ (by simp; omega), List.length_take, Nat.min_eq_left (Nat.le_of_lt hky), Nat.sub_self]
        rw [List.drop_eq_getElem_cons hks, List.set_cons_zero]
        simp
      obtain ⟨g1, cap1, hv, -, -⟩ := ho.form (by omega)
      simp only [Value.slice.injEq, true_and] at hv
      obtain ⟨rfl, rfl⟩ := hv
      have hcs := ho.cellAt k (by simp; omega)
      rw [he] at hcs
      simp only [byteV] at hcs
      have hfz := ho.frozenAt k
      have hst := (ho.stored k (byteV (s ^^^ d))).1
      rw [hset] at hst
      have hxor := xor_u8 s d
      simp only [byteV] at hst
      go_wp2
      go_roundw
      case rel => exact ⟨k + 1, by omega, by go_num, hst, hb.setCell (ho.lt g1 rfl).1 _⟩
      case measure => simp [intOf]; omega
    · obtain rfl : k = n := by omega
      rw [List.take_of_length_le (by rw [HL.out]; exact Nat.le_refl _), List.drop_of_length_le (by rw [HM.out]; exact Nat.le_refl _), List.append_nil] at ho
      go_wp2
      go_ret
      exact ⟨_, _, rfl, ho, hb⟩
end Go.Proofs.Ytlncnicpiadaaaa

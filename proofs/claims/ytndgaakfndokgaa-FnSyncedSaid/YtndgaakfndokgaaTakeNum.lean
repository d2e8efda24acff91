/- takeNum, TakeNum: the walks. -/
import Derived.Test.YtndgaakfndokgaaPureTake
import Derived.Test.YtndgaakfndokgaaSameBytes
set_option linter.unusedSimpArgs false
set_option linter.unusedVariables false
set_option maxRecDepth 20000
namespace Go.Proofs.Ytndgaakfndokgaa
open Go.RowKit
theorem join7 {u g k : Nat} (hk : k ≤ 6) (hu : u < 128 ^ k) (hg : g < 256) : bits .or .i64 (u : Int) (wrap64 (wrap64 (bits .and .u8 (g : Int) 127) * 2 ^ (7 * k))) = ((u + 128 ^ k * (g % 128) : Nat) : Int) := by
  have e1 : bits .and .u8 (g : Int) 127 = (g : Int) % 128 := bits_mask .u8 8 (by decide) wraps_u8 7 (by decide) g (by omega) (by omega)
  have e2 : ∀ n : Nat, n < 9223372036854775808 → wrap64 (n : Int) = n := fun n hn => by unfold wrap64; omega
  have e3 : (g : Int) % 128 = ((g % 128 : Nat) : Int) := by omega
  have e4 : 128 ^ k = 2 ^ (7 * k) := by rw [show (128 : Nat) = 2 ^ 7 from rfl, ← Nat.pow_mul]
  have e5 : 2 ^ (7 * k) ≤ 2 ^ 42 := Nat.pow_le_pow_right (by omega) (by omega)
  have e6 : 2 ^ (7 * k) * (g % 128) ≤ 2 ^ 42 * 127 := Nat.mul_le_mul e5 (by omega)
  rw [e4] at hu
  rw [e1, e3, e2 _ (by omega), show ((g % 128 : Nat) : Int) * 2 ^ (7 * k) = ((2 ^ (7 * k) * (g % 128) : Nat) : Int) by rw [Int.natCast_mul, Int.mul_comm]; simp, e2 _ (by omega), (bits_nat .i64 63 (by decide) wraps_i64 u _ (by omega) (by omega)).2, Nat.or_comm, ← Nat.two_pow_add_eq_or_of_lt hu, e4, Nat.add_comm]
set_option maxHeartbeats 1600000 in
theorem impl_takeNum_in (A : Option Addr) (c : Nat) (b : List UInt8) (a : Nat) (w : World) (hr : Reads w w.heap.size A (b.map byteV)) (hm : b.length ≤ 1048576) (ha : a < b.length) :
    Calls Try.prog 50 #[.slice A b.length c, .int .i64 a] w fun e w' => e = .returned (.tuple #[.int .i64 (takeG answerI b a 7 0).1, .int .i64 (takeG answerI b a 7 0).2.1, .bool (takeG answerI b a 7 0).2.2]) ∧ w = w' := by
  generalize hn : b.length = n at hm ha
  have Hn := Lib.hid hn
  clear hn
  go_enter Try.func50, Try.ntmps50
  go_wp2
  go_loop [7, 8] (fun u i => ∃ k : Nat, k ≤ 7 ∧ a + k ≤ n ∧ i = .int .i64 ((a + k : Nat) : Int) ∧ u = .int .i64 (valB ((b.drop a).take k) : Nat) ∧ Hid (takeG answerI b a 7 0 = takeG answerI b a (7 - k) k)) (fun _ i => a + 7 - (intOf i).toNat)
  case atStart => exact ⟨0, by omega, by omega, by simp, by simp [valB], rfl⟩
  case round =>
    obtain ⟨k, hk, hak, rfl, rfl, hinv⟩ := hrel
    by_cases hlt : k < 7 ∧ a + k < n
    · obtain ⟨h1, h2⟩ := hlt
      have hlx : a + k < b.length := by rw [Hn.out]; exact h2
      have hlx' : a + k < (b.map byteV).length := by simpa using hlx
      obtain ⟨g, off, rfl, hab, hc1⟩ := hr.at_ hlx' (Below.refl _ _) (Nat.le_refl _)
      rw [List.getElem_map] at hc1
      have HG := Lib.hid (List.getElem?_eq_getElem hlx)
      generalize b[a + k]'hlx = l at hc1 HG
      simp only [byteV] at hc1
      generalize hu : valB ((b.drop a).take k) = u at *
      have hu128 : u < 128 ^ k := by
        rw [← hu]
        refine Nat.lt_of_lt_of_le (valB_lt _) (Nat.pow_le_pow_right (by omega) (by simp; omega))
      obtain ⟨V, hV⟩ : ∃ V, V = u + 128 ^ k * (l.toNat % 128) := ⟨_, rfl⟩
      have HE : bits .or .i64 (u : Int) (wrap64 (wrap64 (bits .and .u8 (l.toNat : Int) 127) * 2 ^ (7 * k))) = (V : Int) := by rw [hV]; exact join7 (by omega) hu128 l.toNat_lt
      have hVb : V < 562949953421312 := by
        have h5 : 128 ^ k ≤ 128 ^ 6 := Nat.pow_le_pow_right (by omega) (by omega)
        have h6 : 128 ^ k * (l.toNat % 128) ≤ 128 ^ 6 * 127 := Nat.mul_le_mul h5 (by omega)
        omega
      have HV := Lib.hid hV
      have HU := Lib.hid hu
      clear hV hu
      have hlen : ((b.drop a).take k).length = k := by have := Hn.out; simp; omega
      have HVal : Hid (valB ((b.drop a).take k ++ [l]) = V) := Lib.hid (by rw [valB_append, hlen, HU.out, HV.out])
      have HLen := Lib.hid hlen
      clear hlen
      by_cases hbig : 127 < l.toNat
      · go_wp2
        go_round
        case rel => exact ⟨k + 1, by omega, by omega, by go_num, by rw [take_more HG.out, HVal.out], Lib.hid (by rw [hinv.out, show 7 - k = 7 - (k + 1) + 1 by omega, takeG_go HG.out (by omega)])⟩
        case measure => simp [intOf]; omega
      · have HA : Hid (takeG answerI b a 7 0 = answerI ((b.drop a).take k) l a) := Lib.hid (by rw [hinv.out, show 7 - k = 6 - k + 1 by omega, takeG_stop HG.out (by omega)])
        clear hinv
        have HN : 0 < k → (b.drop a).take k ≠ [] := fun h0 e => by have := HLen.out; rw [e] at this; simp at this; omega
        have HNh := Lib.hid HN
        clear HN
        by_cases hp : V % 2 = 1
        · have hx : unzig V = -((V : Int) / 2) - 1 := by unfold unzig; rw [if_pos hp]; omega
          have hpi : ((V : Int) % 2 == 1) = true := by simp; omega
          cases hw : withinB (-((V : Int) / 2) - 1) (-1099511627776) 1099511627776
          · have HR : Hid (takeG answerI b a 7 0 = noTook) := Lib.hid (by rw [HA.out]; unfold answerI; rw [if_pos (.inr (by rw [HVal.out, hx, hw]))])
            clear hx
            go_wp2_with (go_at_call 49; refine (impl_within_b hw _).mono ?_; rintro e w' ⟨rfl, rfl⟩)
            all_goals (go_ret3; exact ⟨by rw [HR.out]; rfl, rfl⟩)
          · by_cases hz : l.toNat = 0 ∧ 0 < k
            · obtain ⟨hz1, hz2⟩ := hz
              have HR : Hid (takeG answerI b a 7 0 = noTook) := Lib.hid (by rw [HA.out]; unfold answerI; rw [if_pos (.inl ⟨hz1, HNh.out hz2⟩)])
              clear hx
              go_wp2_with (go_at_call 49; refine (impl_within_b hw _).mono ?_; rintro e w' ⟨rfl, rfl⟩)
              all_goals (go_ret3; exact ⟨by rw [HR.out]; rfl, rfl⟩)
            · have HR : Hid (takeG answerI b a 7 0 = (-((V : Int) / 2) - 1, ((a + k + 1 : Nat) : Int), true)) := Lib.hid (by
                rw [HA.out]; unfold answerI
                rw [if_neg, HVal.out, HLen.out, hx]
                rintro (⟨h1, h2⟩ | h1)
                · exact hz ⟨h1, by rcases Nat.eq_zero_or_pos k with h | h; exact absurd (by rw [h]; rfl) h2; exact h⟩
                · rw [HVal.out, hx, hw] at h1; cases h1)
              clear hx
              go_wp2_with (go_at_call 49; refine (impl_within_b hw _).mono ?_; rintro e w' ⟨rfl, rfl⟩)
              all_goals first
                | (exfalso; omega)
                | (go_ret3; exact ⟨by rw [HR.out]; simp, rfl⟩)
        · have hx : unzig V = (V : Int) / 2 := by unfold unzig; rw [if_neg hp]; omega
          have hpi : ((V : Int) % 2 == 1) = false := by simp; omega
          cases hw : withinB ((V : Int) / 2) (-1099511627776) 1099511627776
          · have HR : Hid (takeG answerI b a 7 0 = noTook) := Lib.hid (by rw [HA.out]; unfold answerI; rw [if_pos (.inr (by rw [HVal.out, hx, hw]))])
            clear hx
            go_wp2_with (go_at_call 49; refine (impl_within_b hw _).mono ?_; rintro e w' ⟨rfl, rfl⟩)
            all_goals (go_ret3; exact ⟨by rw [HR.out]; rfl, rfl⟩)
          · by_cases hz : l.toNat = 0 ∧ 0 < k
            · obtain ⟨hz1, hz2⟩ := hz
              have HR : Hid (takeG answerI b a 7 0 = noTook) := Lib.hid (by rw [HA.out]; unfold answerI; rw [if_pos (.inl ⟨hz1, HNh.out hz2⟩)])
              clear hx
              go_wp2_with (go_at_call 49; refine (impl_within_b hw _).mono ?_; rintro e w' ⟨rfl, rfl⟩)
              all_goals (go_ret3; exact ⟨by rw [HR.out]; rfl, rfl⟩)
            · have HR : Hid (takeG answerI b a 7 0 = ((V : Int) / 2, ((a + k + 1 : Nat) : Int), true)) := Lib.hid (by
                rw [HA.out]; unfold answerI
                rw [if_neg, HVal.out, HLen.out, hx]
                rintro (⟨h1, h2⟩ | h1)
                · exact hz ⟨h1, by rcases Nat.eq_zero_or_pos k with h | h; exact absurd (by rw [h]; rfl) h2; exact h⟩
                · rw [HVal.out, hx, hw] at h1; cases h1)
              clear hx
              go_wp2_with (go_at_call 49; refine (impl_within_b hw _).mono ?_; rintro e w' ⟨rfl, rfl⟩)
              all_goals first
                | (exfalso; omega)
                | (go_ret3; exact ⟨by rw [HR.out]; simp, rfl⟩)
    · have HR : Hid (takeG answerI b a 7 0 = noTook) := Lib.hid (by
        rw [hinv.out]
        rcases Nat.lt_or_ge k 7 with h | h
        · exact takeG_end _ (List.getElem?_eq_none (by rw [Hn.out]; omega))
        · rw [show 7 - k = 0 by omega]; rfl)
      clear hinv
      go_wp2
      all_goals first
        | (exfalso; omega)
        | (go_ret3; exact ⟨by rw [HR.out]; rfl, rfl⟩)
end Go.Proofs.Ytndgaakfndokgaa

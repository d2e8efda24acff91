/- spec.TakeNum: the walk. -/
import Derived.Test.YtgaenfkjobkmjabTakeNum
import Derived.IntWalk
set_option linter.unusedSimpArgs false
set_option linter.unusedVariables false
set_option maxRecDepth 20000
namespace Go.Proofs.Ytgaenfkjobkmjab
open Go.RowKit
theorem joinS {g k : Nat} (hk : k ≤ 6) (hg : g < 256) : wrap64 ((g : Int) % 128 * 2 ^ (7 * k)) = ((128 ^ k * (g % 128) : Nat) : Int) := by
  have e4 : 128 ^ k = 2 ^ (7 * k) := by rw [show (128 : Nat) = 2 ^ 7 from rfl, ← Nat.pow_mul]
  have e5 : 2 ^ (7 * k) ≤ 2 ^ 42 := Nat.pow_le_pow_right (by omega) (by omega)
  have e6 : 2 ^ (7 * k) * (g % 128) ≤ 2 ^ 42 * 127 := Nat.mul_le_mul e5 (by omega)
  rw [e4, show (g : Int) % 128 * 2 ^ (7 * k) = ((2 ^ (7 * k) * (g % 128) : Nat) : Int) by rw [Int.natCast_mul, Int.mul_comm]; simp]
  unfold wrap64
  omega
/-- A part of a readable row. -/
theorem Reads.part {w : World} {B : Nat} {g off : Nat} {xs : List Value} (h : Reads w B (some ⟨g, off, none⟩) xs) (i : Nat) (n : Nat) : Reads w B (some ⟨g, off + i, none⟩) ((xs.drop i).take n) := fun h0 => by
  have hl : 0 < xs.length := by simp at h0; omega
  obtain ⟨b, o, h1, h2, h3⟩ := h hl
  simp only [Option.some.injEq, Addr.mk.injEq, and_true] at h1
  obtain ⟨rfl, rfl⟩ := h1
  refine ⟨g, off + i, rfl, h2, fun j u hu => ?_⟩
  rw [Nat.add_assoc]
  refine h3 (i + j) u ?_
  rw [List.getElem?_take] at hu
  split at hu
  · rwa [List.getElem?_drop] at hu
  · cases hu
theorem takeS_facts {b : List UInt8} {a k : Nat} {l : UInt8} (hk : k ≤ 6) (hl : a + k ≤ b.length) :
    ∃ (V : Nat) (U Z L : Int), Hid (valB ((b.drop a).take k ++ [l]) = V) ∧ Hid (U = ((valB ((b.drop a).take k) : Nat) : Int)) ∧ Hid (L = (l.toNat : Int)) ∧ 0 ≤ L ∧ L < 256 ∧ V < 562949953421312 ∧ 0 ≤ Z ∧ Z < 562949953421312 ∧ 0 ≤ U ∧ U < 4398046511104 ∧
      U + Z = (V : Int) ∧ wrap64 (L % 128 * 2 ^ (7 * k)) = Z := by
  have hlen : ((b.drop a).take k).length = k := by simp; omega
  have hu128 : valB ((b.drop a).take k) < 128 ^ k := Nat.lt_of_lt_of_le (valB_lt _) (by rw [hlen]; exact Nat.le_refl _)
  have hVal : valB ((b.drop a).take k ++ [l]) = valB ((b.drop a).take k) + 128 ^ k * (l.toNat % 128) := by rw [valB_append, hlen]
  have e6 : (128 : Nat) ^ 6 = 4398046511104 := rfl
  have hp : 128 ^ k ≤ 128 ^ 6 := Nat.pow_le_pow_right (by omega) hk
  have hb7 : 128 ^ k * (l.toNat % 128) ≤ 128 ^ 6 * 127 := Nat.mul_le_mul hp (by omega)
  have hZ := joinS (k := k) hk l.toNat_lt
  have hl2 := l.toNat_lt
  rw [e6] at hp hb7
  generalize valB ((b.drop a).take k) = u at *
  generalize 128 ^ k * (l.toNat % 128) = z at *
  refine ⟨u + z, u, z, l.toNat, Lib.hid hVal, Lib.hid rfl, Lib.hid rfl, ?_, ?_, ?_, ?_, ?_, ?_, ?_, ?_, hZ⟩ <;> omega
set_option maxRecDepth 10000 in
set_option maxHeartbeats 3200000 in
theorem spec_TakeNum_in (A : Option Addr) (c : Nat) (b : List UInt8) (a : Nat) (w : World) (hr : Reads w w.heap.size A (b.map byteV)) (hm : b.length ≤ 1048576) (hc : b.length ≤ c) (ha : a < b.length) :
    Calls Try.prog 43 #[.slice A b.length c, .int .i64 a] w fun e w' => e = .returned (.tuple #[.int .i64 (takeG answerS b a 6 0).1, .int .i64 (takeG answerS b a 6 0).2.1, .bool (takeG answerS b a 6 0).2.2]) ∧ Below w.heap.size w w' := by
  generalize hn : b.length = n at hm ha hc
  have Hn := Lib.hid hn
  clear hn
  have hd0 : decide ((a : Int) < 0) = false := by simp
  have hd1 : decide (n ≤ a) = false := by simpa using ha
  go_enter Try.func43, Try.ntmps43
  go_wp2
  go_loop [7, 8] (fun u i => ∃ k : Nat, k ≤ 6 ∧ a + k ≤ n ∧ i = .int .i64 k ∧ u = .int .i64 (valB ((b.drop a).take k) : Nat) ∧ Hid (takeG answerS b a 6 0 = takeG answerS b a (6 - k) k)) (fun _ i => 6 - (intOf i).toNat)
  case atStart => exact ⟨0, by omega, by omega, by simp, by simp [valB], rfl⟩
  case round =>
    obtain ⟨k, hk, hak, rfl, rfl, hinv⟩ := hrel
    by_cases hlt : k < 6 ∧ a + k < n
    · obtain ⟨h1, h2⟩ := hlt
      have hlx : a + k < b.length := by rw [Hn.out]; exact h2
      have hlx' : a + k < (b.map byteV).length := by simpa using hlx
      obtain ⟨g, off, rfl, hab, hc1⟩ := hr.at_ hlx' (Below.refl _ _) (Nat.le_refl _)
      rw [List.getElem_map] at hc1
      have HG := Lib.hid (List.getElem?_eq_getElem hlx)
      generalize b[a + k]'hlx = l at hc1 HG
      simp only [byteV] at hc1
      obtain ⟨V, U, Z, L, HVal, HUu, HLl, hL0, hL1, hVb, hZ0, hZ1, hU0, hU1, HE2, hZ⟩ := takeS_facts (b := b) (a := a) (k := k) (l := l) (by omega) (by have := Hn.out; omega)
      have e1 := HUu.out
      have e2 := HLl.out
      rw [← e1]
      rw [← e2] at hc1
      clear e1 e2
      have HLen : Hid (((b.drop a).take k).length = k) := Lib.hid (by have := Hn.out; simp; omega)
      by_cases hbig : 128 ≤ L
      · go_wp2
        go_round
        case rel => exact ⟨k + 1, by omega, by omega, by go_num, by rw [take_more HG.out, HVal.out], Lib.hid (by rw [hinv.out, show 6 - k = 6 - (k + 1) + 1 by omega, takeG_go HG.out (by have := HLl.out; omega)])⟩
        case measure => simp [intOf]; omega
      · have HA : Hid (takeG answerS b a 6 0 = answerS ((b.drop a).take k) l a) := Lib.hid (by rw [hinv.out, show 6 - k = 5 - k + 1 by omega, takeG_stop HG.out (by have := HLl.out; omega)])
        clear hinv
        obtain ⟨ys, hys⟩ : ∃ ys, ys = (b.drop a).take k ++ [l] := ⟨_, rfl⟩
        have hrY : Reads w w.heap.size (some ⟨g, off + a, none⟩) (ys.map byteV) := by
          have h := hr.part a (k + 1)
          rw [← List.map_drop, ← List.map_take, take_more HG.out, ← hys] at h
          exact h
        have hyl : ys.length = k + 1 := by rw [hys, List.length_append, HLen.out]; rfl
        have HYl := Lib.hid hyl
        have HYs := Lib.hid hys.symm
        clear hys hyl
        by_cases hp : V % 2 = 1
        · have hx : unzig V = -((V : Int) / 2) - 1 := by unfold unzig; rw [if_pos hp]; omega
          have hpi : ((V : Int) % 2 == 1) = true := by simp; omega
          have HAns : Hid (takeG answerS b a 6 0 = if putB (-((V : Int) / 2) - 1) = ys then (-((V : Int) / 2) - 1, ((a + k + 1 : Nat) : Int), true) else noTook) := Lib.hid (by rw [HA.out]; unfold answerS; rw [HVal.out, hx, HLen.out, HYs.out])
          clear hx
          go_wp2
          have hi1 : IntKind.i64.wrap ((a : Int) + k) = a + k := IntWalk.i64_in _ (by omega)
          have hi2 : IntKind.i64.wrap ((a : Int) + k + 1) = a + k + 1 := IntWalk.i64_in _ (by omega)
          have hi3 : (0 : Int) ≤ a + k + 1 := by omega
          have hi4 : (a : Int) + k + 1 ≤ c := by omega
          have hi5 : ((a : Int) + k + 1).toNat = a + k + 1 := by omega
          have hi6 : (a : Int) ≤ a + k + 1 := by omega
          have hput := putB_short (-((V : Int) / 2) - 1)
          go_region_held3 (fun w' => True) (trivial) (first
            | (go_at_call 48; refine (spec_PutNum _ _).mono ?_; rintro e w1 ⟨A1, c1, rfl, ho1, hb1⟩)
            | (go_at_call 30; refine (Calls.cast (by rw [HYl.out, show a + k + 1 - a = k + 1 by omega]) (spec_l01Same _ _ _ _ _ _ _ (Reads.of_own ho1) ((hrY.below (by (repeat (first | (with_reducible exact Below.refl _ _) | (with_reducible assumption) | ((with_reducible refine Below.setCell ?_ ?_ _); rotate_left; focus (first | omega | (simp; done) | (simp; omega))) | ((with_reducible refine Below.alloc ?_ ?_ _); rotate_left; focus (first | omega | (simp; done) | (simp; omega))) | (with_reducible refine Below.drew ?_) | (with_reducible refine below_drewN ?_ _) | (refine Below.trans ?_ (Below.mono (by with_reducible assumption) (by (first | omega | (simp; done) | (simp; omega)))))))) (Nat.le_refl _)).more hb1.size) (by omega) (by rw [HYl.out]; omega))).mono ?_; rintro e w2 ⟨rfl, ⟨m2, rfl⟩⟩))
          clear hi1 hi2 hi3 hi4 hi5 hi6
          go_wp2
          · have hne : (!decide (putB (-((V : Int) / 2) - 1) = ys)) = true := by assumption
            go_ret3
            exact ⟨by rw [HAns.out, if_neg (by simpa using hne)]; rfl, by (repeat (first | (with_reducible exact Below.refl _ _) | (with_reducible assumption) | ((with_reducible refine Below.setCell ?_ ?_ _); rotate_left; focus (first | omega | (simp; done) | (simp; omega))) | ((with_reducible refine Below.alloc ?_ ?_ _); rotate_left; focus (first | omega | (simp; done) | (simp; omega))) | (with_reducible refine Below.drew ?_) | (with_reducible refine below_drewN ?_ _) | (refine Below.trans ?_ (Below.mono (by with_reducible assumption) (by (first | omega | (simp; done) | (simp; omega)))))))⟩
          · have heq : (!decide (putB (-((V : Int) / 2) - 1) = ys)) = false := by assumption
            go_ret3
            exact ⟨by rw [HAns.out, if_pos (by simpa using heq)]; simp, by (repeat (first | (with_reducible exact Below.refl _ _) | (with_reducible assumption) | ((with_reducible refine Below.setCell ?_ ?_ _); rotate_left; focus (first | omega | (simp; done) | (simp; omega))) | ((with_reducible refine Below.alloc ?_ ?_ _); rotate_left; focus (first | omega | (simp; done) | (simp; omega))) | (with_reducible refine Below.drew ?_) | (with_reducible refine below_drewN ?_ _) | (refine Below.trans ?_ (Below.mono (by with_reducible assumption) (by (first | omega | (simp; done) | (simp; omega)))))))⟩
        · have hx : unzig V = (V : Int) / 2 := by unfold unzig; rw [if_neg hp]; omega
          have hpi : ((V : Int) % 2 == 1) = false := by simp; omega
          have HAns : Hid (takeG answerS b a 6 0 = if putB ((V : Int) / 2) = ys then ((V : Int) / 2, ((a + k + 1 : Nat) : Int), true) else noTook) := Lib.hid (by rw [HA.out]; unfold answerS; rw [HVal.out, hx, HLen.out, HYs.out])
          clear hx
          go_wp2
          have hi1 : IntKind.i64.wrap ((a : Int) + k) = a + k := IntWalk.i64_in _ (by omega)
          have hi2 : IntKind.i64.wrap ((a : Int) + k + 1) = a + k + 1 := IntWalk.i64_in _ (by omega)
          have hi3 : (0 : Int) ≤ a + k + 1 := by omega
          have hi4 : (a : Int) + k + 1 ≤ c := by omega
          have hi5 : ((a : Int) + k + 1).toNat = a + k + 1 := by omega
          have hi6 : (a : Int) ≤ a + k + 1 := by omega
          have hput := putB_short ((V : Int) / 2)
          go_region_held3 (fun w' => True) (trivial) (first
            | (go_at_call 48; refine (spec_PutNum _ _).mono ?_; rintro e w1 ⟨A1, c1, rfl, ho1, hb1⟩)
            | (go_at_call 30; refine (Calls.cast (by rw [HYl.out, show a + k + 1 - a = k + 1 by omega]) (spec_l01Same _ _ _ _ _ _ _ (Reads.of_own ho1) ((hrY.below (by (repeat (first | (with_reducible exact Below.refl _ _) | (with_reducible assumption) | ((with_reducible refine Below.setCell ?_ ?_ _); rotate_left; focus (first | omega | (simp; done) | (simp; omega))) | ((with_reducible refine Below.alloc ?_ ?_ _); rotate_left; focus (first | omega | (simp; done) | (simp; omega))) | (with_reducible refine Below.drew ?_) | (with_reducible refine below_drewN ?_ _) | (refine Below.trans ?_ (Below.mono (by with_reducible assumption) (by (first | omega | (simp; done) | (simp; omega)))))))) (Nat.le_refl _)).more hb1.size) (by omega) (by rw [HYl.out]; omega))).mono ?_; rintro e w2 ⟨rfl, ⟨m2, rfl⟩⟩))
          clear hi1 hi2 hi3 hi4 hi5 hi6
          go_wp2
          · have hne : (!decide (putB ((V : Int) / 2) = ys)) = true := by assumption
            go_ret3
            exact ⟨by rw [HAns.out, if_neg (by simpa using hne)]; rfl, by (repeat (first | (with_reducible exact Below.refl _ _) | (with_reducible assumption) | ((with_reducible refine Below.setCell ?_ ?_ _); rotate_left; focus (first | omega | (simp; done) | (simp; omega))) | ((with_reducible refine Below.alloc ?_ ?_ _); rotate_left; focus (first | omega | (simp; done) | (simp; omega))) | (with_reducible refine Below.drew ?_) | (with_reducible refine below_drewN ?_ _) | (refine Below.trans ?_ (Below.mono (by with_reducible assumption) (by (first | omega | (simp; done) | (simp; omega)))))))⟩
          · have heq : (!decide (putB ((V : Int) / 2) = ys)) = false := by assumption
            go_ret3
            exact ⟨by rw [HAns.out, if_pos (by simpa using heq)]; simp, by (repeat (first | (with_reducible exact Below.refl _ _) | (with_reducible assumption) | ((with_reducible refine Below.setCell ?_ ?_ _); rotate_left; focus (first | omega | (simp; done) | (simp; omega))) | ((with_reducible refine Below.alloc ?_ ?_ _); rotate_left; focus (first | omega | (simp; done) | (simp; omega))) | (with_reducible refine Below.drew ?_) | (with_reducible refine below_drewN ?_ _) | (refine Below.trans ?_ (Below.mono (by with_reducible assumption) (by (first | omega | (simp; done) | (simp; omega)))))))⟩
    · have HR : Hid (takeG answerS b a 6 0 = noTook) := Lib.hid (by
        rw [hinv.out]
        rcases Nat.lt_or_ge k 6 with h | h
        · exact takeG_end _ (List.getElem?_eq_none (by rw [Hn.out]; omega))
        · rw [show 6 - k = 0 by omega]; rfl)
      clear hinv
      go_wp2
      all_goals first
        | (exfalso; omega)
        | (go_ret3; exact ⟨by rw [HR.out]; rfl, Below.refl _ _⟩)
end Go.Proofs.Ytgaenfkjobkmjab

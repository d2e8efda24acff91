/- The stream, wide numbers and masks of the reference. -/
import Derived.Test.YtlncnicpiadaaaaPureBox
import Derived.Test.YtlncnicpiadaaaaImplTag
import Derived.Deep.AppendLies
set_option linter.unusedSimpArgs false
set_option linter.unusedVariables false
set_option maxRecDepth 20000
namespace Go.Proofs.Ytlncnicpiadaaaa
open Go.RowKit
theorem keyOk_of {K : Nat} (h : K ≤ 1099511627776) : keyOk (K : Int) = true := by unfold keyOk; exact withinB_iff.2 (by omega)
theorem wraps63 (n : Int) (h₀ : 0 ≤ n) (h₁ : n < 2 ^ 63) : IntKind.i64.wrap n = n := by rw [IntKind.wrap_i64]; omega
theorem out_grown {w w' : World} {row : Option Nat} (hg : w.grownBy w' row) : Out (fun g => row = some g) w w' := ⟨hg.os, hg.tape, hg.output, hg.size, fun k hk hs => hg.block k hk (fun e => hs e.symm)⟩
theorem shr_byte (K k : Nat) (hK : K ≤ 1099511627776) : byteV (UInt8.ofNat (K / 2 ^ (8 * k))) = .int .u8 (bits .and .i64 ((K : Int) / 2 ^ (8 * k)) 255 % 256) := by
  have hle : K / 2 ^ (8 * k) ≤ K := Nat.div_le_self _ _
  have hc : (K : Int) / 2 ^ (8 * k) = ((K / 2 ^ (8 * k) : Nat) : Int) := by simp
  generalize hX : K / 2 ^ (8 * k) = X at *
  rw [hc]
  have hand : bits .and .i64 (X : Int) 255 = X % 256 := bits_mask .i64 63 (by decide) wraps63 8 (by decide) X (by omega) (by omega)
  rw [hand]
  show Value.int .u8 ((UInt8.ofNat X).toNat : Int) = _
  simp
theorem spec_l04Key (x : Int) (w : World) : Calls Try.prog 55 #[.int .i64 x] w fun e w' => e = .returned (.bool (keyOk x)) ∧ w = w' := by
  go_enter Try.func55, Try.ntmps55
  go_wp2_with (go_at_call 34; refine (spec_l01In _ _ _ _).mono ?_; rintro e w' ⟨rfl, rfl⟩)
  go_ret
  exact ⟨rfl, rfl⟩
theorem spec_l04Key_b {x : Int} {b : Bool} (h : keyOk x = b) (w : World) : Calls Try.prog 55 #[.int .i64 x] w fun e w' => e = .returned (.bool b) ∧ w = w' := by rw [← h]; exact spec_l04Key x w
set_option maxHeartbeats 1600000 in
theorem spec_PutWide (K : Nat) (w : World) (hK : K ≤ 1099511627776) :
    Calls Try.prog 72 #[.int .i64 K] w fun e w' => ∃ A1 c1, e = .returned (.slice A1 8 c1) ∧ w'.ownsRow w.heap.size 5 1 (.slice A1 8 c1) 8 ((wideB K).map byteV) ∧ Below w.heap.size w w' := by
  obtain ⟨i0, hi0, hI0, hI1, hI2⟩ := info_parts info_uint8
  have HL := Lib.hid (wide_len K)
  have HA := Lib.hid (fun k h => wide_at (K := K) (k := k) h)
  have HK := Lib.hid (fun w => spec_l04Key_b (keyOk_of hK) w)
  generalize wideB K = xs at *
  go_enter Try.func72, Try.ntmps72
  go_wp2_with (go_at_call 55; refine (HK.out _).mono ?_; rintro e w' ⟨rfl, rfl⟩)
  go_loopw [3, 4] (fun o i wr => ∃ (k : Nat) (A1 : Option Addr) (c1 : Nat), k ≤ 8 ∧ i = .int .i64 k ∧ o = .slice A1 k c1 ∧ wr.ownsRow w.heap.size 5 1 (.slice A1 k c1) k ((xs.take k).map byteV) ∧ Below w.heap.size w wr ∧ w.heap.size ≤ wr.heap.size) (fun _ i _ => 8 - (intOf i).toNat)
  case atStart => exact ⟨0, some ⟨w.heap.size, 0, none⟩, 0, Nat.zero_le _, rfl, rfl, World.ownsRow_lit w #[] 0 (Nat.le_refl _) (by simp [maxLen]) rfl, by (repeat (first | (with_reducible exact Below.refl _ _) | (with_reducible assumption) | ((with_reducible refine Below.setCell ?_ ?_ _); rotate_left; focus (first | omega | (simp; done) | (simp; omega))) | ((with_reducible refine Below.alloc ?_ ?_ _); rotate_left; focus (first | omega | (simp; done) | (simp; omega))) | (with_reducible refine Below.drew ?_) | (with_reducible refine below_drewN ?_ _) | (refine Below.trans ?_ (Below.mono (by with_reducible assumption) (by (first | omega | (simp; done) | (simp; omega))))))), by simp⟩
  case round =>
    obtain ⟨k, A1, c1, hk, rfl, rfl, hown, hb, hzr⟩ := hrel
    by_cases hlt : k < 8
    · have HT := Lib.hid (take_snoc (HA.out k hlt))
      have HV := Lib.hid (shr_byte K k hK)
      go_wp2_with (first | (at_builtin; go_loud (refine wpList_append_own_at _ rfl _ _ 25 rfl w.heap.size 5 i0 (.int .u8 0) 1 1 Try.underlying25 hi0 hI0 hI1 hI2 rfl (by decide) _ _ _ rfl (hown.alloc _) ⟨wr.heap.size, 0, none⟩ 1 1 [byteV (UInt8.ofNat (K / 2 ^ (8 * k)))] rfl rfl ?c1 ?c2 ?c3 ?c4 ?c5 ?_; (case c1 => (rw [HV.out]; exact cell_one_new _ _ _)); (case c2 => simp [byteV, Value.oneCell']); (case c3 => (simp only [maxLen]; omega)); (case c4 => omega); (case c5 => (simp; omega)); intro v' wA hown1 hgrow hnil hat; obtain ⟨gg, cap, rfl, hg1, hg2⟩ := hown1.form (by omega))))
      go_roundw
      case rel =>
        have hsz := hgrow.size
        simp at hsz
        refine ⟨k + 1, some ⟨gg, 0, none⟩, cap, by omega, by go_num, by rfl, ?_, ?_, by omega⟩
        · rw [HT.out, List.map_append]; exact hown1
        · exact Below.grown (hb.alloc (by omega) _) hgrow (by simp; omega) (fun g e => (hown.lt _ e).1)
      case measure => simp [intOf]; omega
    · obtain rfl : k = 8 := by omega
      rw [List.take_of_length_le (by rw [HL.out]; exact Nat.le_refl _)] at hown
      go_wp2
      go_ret
      exact ⟨_, _, rfl, hown, hb⟩
set_option maxHeartbeats 1600000 in
theorem spec_Stream (K N n : Nat) (w : World) (hK : K ≤ 1099511627776) (hN : N ≤ 1099511627776) (hn : n ≤ 2000) :
    Calls Try.prog 73 #[.int .i64 K, .int .i64 N, .int .i64 n] w fun e w' => ∃ A1 c1, e = .returned (.slice A1 n c1) ∧ w'.ownsRow w.heap.size 5 1 (.slice A1 n c1) n ((streamB K N n).map byteV) ∧ Below w.heap.size w w' := by
  obtain ⟨i0, hi0, hI0, hI1, hI2⟩ := info_parts info_uint8
  have HL := Lib.hid (stream_len K N n)
  have HA := Lib.hid (fun k h => stream_at (K := K) (N := N) (n := n) (k := k) h)
  have HK := Lib.hid (fun w => spec_l04Key_b (keyOk_of hK) w)
  have HN := Lib.hid (fun w => spec_l04Key_b (keyOk_of hN) w)
  have HI := Lib.hid (fun w => spec_l01In_b (n := (n : Int)) (lo := 0) (hi := 2000) (b := true) (withinB_iff.2 (by omega)) w)
  have H0 := Lib.hid (hAt_zero K N)
  generalize streamB K N n = xs at *
  go_enter Try.func73, Try.ntmps73
  go_wp2_with (first | (go_at_call 55; first | (with_reducible refine (HK.out _).mono ?_; rintro e w' ⟨rfl, rfl⟩) | (with_reducible refine (HN.out _).mono ?_; rintro e w' ⟨rfl, rfl⟩)) | (go_at_call 34; refine (HI.out _).mono ?_; rintro e w' ⟨rfl, rfl⟩))
  go_region_law (fail)
  go_wp2
  go_loopw [7, 9, 10] (fun o hh i wr => ∃ (k : Nat) (A1 : Option Addr) (c1 : Nat), k ≤ n ∧ i = .int .i64 k ∧ hh = .int .i64 ((hAt K N k : Nat) : Int) ∧ o = .slice A1 k c1 ∧ wr.ownsRow w.heap.size 5 1 (.slice A1 k c1) k ((xs.take k).map byteV) ∧ Below w.heap.size w wr ∧ w.heap.size ≤ wr.heap.size) (fun _ _ i _ => n - (intOf i).toNat)
  case atStart => exact ⟨0, some ⟨w.heap.size, 0, none⟩, 0, Nat.zero_le _, rfl, by rw [H0.out], rfl, World.ownsRow_lit w #[] 0 (Nat.le_refl _) (by simp [maxLen]) rfl, by (repeat (first | (with_reducible exact Below.refl _ _) | (with_reducible assumption) | ((with_reducible refine Below.setCell ?_ ?_ _); rotate_left; focus (first | omega | (simp; done) | (simp; omega))) | ((with_reducible refine Below.alloc ?_ ?_ _); rotate_left; focus (first | omega | (simp; done) | (simp; omega))) | (with_reducible refine Below.drew ?_) | (with_reducible refine below_drewN ?_ _) | (refine Below.trans ?_ (Below.mono (by with_reducible assumption) (by (first | omega | (simp; done) | (simp; omega))))))), by simp⟩
  case round =>
    obtain ⟨k, A1, c1, hk, rfl, rfl, rfl, hown, hb, hzr⟩ := hrel
    have hlt31 := hAt_lt K N k
    have HS := Lib.hid (hAt_succ K N k)
    have HB := Lib.hid (strB_nat K N k)
    have hlt32 := hAt_lt K N (k + 1)
    generalize hAt K N k = h0 at *
    by_cases hlt : k < n
    · have HT := Lib.hid (take_snoc (HA.out k hlt))
      have hv : byteV (strB K N k) = .int .u8 ((48271 * (h0 : Int) + (K : Int) % 65521 + 1) % 2147483629 / 1024 % 256) := by
        show Value.int .u8 ((strB K N k).toNat : Int) = _
        rw [HB.out, HS.out]
      have HV := Lib.hid hv
      clear hv
      go_wp2_with (first | (at_builtin; go_loud (refine wpList_append_own_at _ rfl _ _ 25 rfl w.heap.size 5 i0 (.int .u8 0) 1 1 Try.underlying25 hi0 hI0 hI1 hI2 rfl (by decide) _ _ _ rfl (hown.alloc _) ⟨wr.heap.size, 0, none⟩ 1 1 [byteV (strB K N k)] rfl rfl ?c1 ?c2 ?c3 ?c4 ?c5 ?_; (case c1 => (rw [HV.out]; exact cell_one_new _ _ _)); (case c2 => simp [byteV, Value.oneCell']); (case c3 => (simp only [maxLen]; omega)); (case c4 => omega); (case c5 => (simp; omega)); intro v' wA hown1 hgrow hnil hat; obtain ⟨gg, cap, rfl, hg1, hg2⟩ := hown1.form (by omega))))
      go_roundw
      case rel =>
        have hsz := hgrow.size
        simp at hsz
        refine ⟨k + 1, some ⟨gg, 0, none⟩, cap, by omega, by go_num, by rw [HS.out], by rfl, ?_, ?_, by omega⟩
        · rw [HT.out, List.map_append]; exact hown1
        · exact Below.grown (hb.alloc (by omega) _) hgrow (by simp; omega) (fun g e => (hown.lt _ e).1)
      case measure => simp [intOf]; omega
    · obtain rfl : k = n := by omega
      rw [List.take_of_length_le (by rw [HL.out]; exact Nat.le_refl _)] at hown
      go_wp2
      go_ret
      exact ⟨_, _, rfl, hown, hb⟩
set_option maxHeartbeats 1600000 in
theorem spec_l04Mask (K N : Nat) (A : Option Addr) (c : Nat) (xs : List UInt8) (w : World) (hr : Reads w w.heap.size A (xs.map byteV)) (hK : K ≤ 1099511627776) (hN : N ≤ 1099511627776) (hm : xs.length ≤ 2000) :
    Calls Try.prog 57 #[.int .i64 K, .int .i64 N, .slice A xs.length c] w fun e w' => ∃ A1 c1, e = .returned (.slice A1 xs.length c1) ∧ w'.ownsRow w.heap.size 5 1 (.slice A1 xs.length c1) xs.length ((maskB K N xs).map byteV) ∧ Below w.heap.size w w' := by
  obtain ⟨i0, hi0, hI0, hI1, hI2⟩ := info_parts info_uint8
  have HS := Lib.hid (fun w => spec_Stream K N xs.length w hK hN hm)
  have HA := Lib.hid (fun k d h => mask_at (K := K) (N := N) (data := xs) (k := k) (d := d) h)
  have HB := Lib.hid (fun k (h : k < xs.length) => stream_at (K := K) (N := N) h)
  have HL := Lib.hid (mask_len K N xs)
  have HM := Lib.hid (stream_len K N xs.length)
  generalize maskB K N xs = ys at *
  generalize streamB K N xs.length = ss at *
  generalize hn : xs.length = n at *
  have Hn := Lib.hid hn
  clear hn
  go_enter Try.func57, Try.ntmps57
  go_wp2_with fail
  refine (HS.out _).mono ?_
  rintro e w1 ⟨A1, c1, rfl, ho1, hb1⟩
  have hz1 := hb1.size; try simp at hz1
  replace ho1 : w1.ownsRow (w.heap.size + 1) 5 1 (.slice A1 n c1) n (ss.map byteV) := by simpa using ho1
  have hso := of_own_ByteS (by rw [HM.out]; exact ho1 : w1.ownsRow (w.heap.size + 1) 5 1 (.slice A1 ss.length c1) ss.length (ss.map byteV))
  have hsl : ∀ g, (Value.slice A1 ss.length c1).ownBlock = some g → w.heap.size + 1 ≤ g ∧ g < w1.heap.size := fun g hg => by
    have := (by rw [HM.out]; exact ho1 : w1.ownsRow (w.heap.size + 1) 5 1 (.slice A1 ss.length c1) ss.length (ss.map byteV)).lt g hg
    exact this
  go_wp2
  go_loopw [7, 9] (fun o i wr => ∃ (k : Nat) (A2 : Option Addr) (c2 : Nat), k ≤ n ∧ i = .int .i64 k ∧ o = .slice A2 k c2 ∧ wr.ownsRow w.heap.size 5 1 (.slice A2 k c2) k ((ys.take k).map byteV) ∧ Out (fun g => g = w.heap.size ∨ w1.heap.size ≤ g) w1 wr ∧ (∀ g, (Value.slice A2 k c2).ownBlock = some g → g = w.heap.size ∨ w1.heap.size ≤ g) ∧ Below w.heap.size w wr ∧ w1.heap.size ≤ wr.heap.size) (fun _ i _ => n - (intOf i).toNat)
  case atStart => exact ⟨0, some ⟨w.heap.size, 0, none⟩, 0, Nat.zero_le _, rfl, rfl, own_below (World.ownsRow_lit w #[] 0 (Nat.le_refl _) (by simp [maxLen]) rfl) (by simpa using hb1), Out.refl _ _, fun g hg => by simp [Value.ownBlock] at hg; exact .inl hg.symm, by (repeat (first | (with_reducible exact Below.refl _ _) | (with_reducible assumption) | ((with_reducible refine Below.setCell ?_ ?_ _); rotate_left; focus (first | omega | (simp; done) | (simp; omega))) | ((with_reducible refine Below.alloc ?_ ?_ _); rotate_left; focus (first | omega | (simp; done) | (simp; omega))) | (with_reducible refine Below.drew ?_) | (with_reducible refine below_drewN ?_ _) | (refine Below.trans ?_ (Below.mono (by with_reducible assumption) (by (first | omega | (simp; done) | (simp; omega))))))), Nat.le_refl _⟩
  case round =>
    obtain ⟨k, A2, c2, hk, rfl, rfl, hown, hO, hbl, hb, hzr⟩ := hrel
    by_cases hlt : k < n
    · have hlx : k < (xs.map byteV).length := by simpa [Hn.out] using hlt
      obtain ⟨b, off, rfl, hab, hc1⟩ := hr.at_ hlx hb (Nat.le_refl _)
      obtain ⟨d, hx1, hx2, hx3⟩ := map_at byteV xs k hlx
      rw [hx1] at hc1
      simp only [byteV] at hc1
      have hy := HA.out k d hx3
      have hs := HB.out k hlt
      have HT := Lib.hid (take_snoc hy)
      clear hx1 hx2 hx3 hy
      have hrs := (rd_ByteS ((hso.out hO (fun g hg hT => by have := hsl g hg; omega)).rd (B := w1.heap.size) (fun g hg => (hsl g hg).2))).2.1
      obtain ⟨b2, off2, rfl, hab2, hc2⟩ := hrs.get (u := byteV (strB K N k)) (by rw [List.getElem?_map, hs]; rfl) (Below.refl _ _) (Nat.le_refl _)
      simp only [byteV] at hc2
      clear hs hrs
      generalize strB K N k = s at *
      have HX := Lib.hid (show byteV (s ^^^ d) = .int .u8 (bits .xor .u8 (d.toNat : Int) (s.toNat : Int)) by rw [xor_u8, UInt8.xor_comm]; rfl)
      have hzw := hb.size
      go_wp2_with fail
      go_region_law (refine step_append_lies _ (by rfl) _ _ _ (by rfl) w.heap.size 5 i0 _ 1 1 Try.underlying25 hi0 hI0 hI1 hI2 rfl (by omega) (.slice A2 k c2) k _ (by rfl) ((hown.alloc _).drew) ⟨wr.heap.size, 0, none⟩ 1 1 [.int .u8 (bits .xor .u8 (d.toNat : Int) (s.toNat : Int))] (by rfl) (by rfl) (World.news_of_block (cs := #[.int .u8 (bits .xor .u8 (d.toNat : Int) (s.toNat : Int))]) (t := 5) (fr := (0, 0)) (heap_alloc_new wr _)) (by simp [Value.oneCell']) (by omega) (by simp only [maxLen]; omega) (by omega) (by simp; omega) (wr.heap.size + 1) (by simp) ?_; intro gg cap w4 hown1 hgrow hat hlt1)
      all_goals
        go_wp2
        go_roundw
        case rel =>
          have hzg : wr.heap.size + 1 ≤ w4.heap.size := by simpa using hgrow.size
          have hbl' : ∀ g, (Value.slice (some ⟨gg, 0, none⟩) (k + 1) cap).ownBlock = some g → g = w.heap.size ∨ w1.heap.size ≤ g := fun g hg => by
            simp only [Value.ownBlock, Option.some.injEq] at hg
            subst hg
            rcases hat with h | h
            · exact hbl _ h
            · omega
          refine ⟨k + 1, some ⟨gg, 0, none⟩, cap, by omega, by go_num, by rfl, ?_, ?_, hbl', ?_, by omega⟩
          · rw [HT.out, List.map_append, List.map_cons, List.map_nil, HX.out]; exact hown1
          · exact ((hO.alloc _).drew).trans ((out_grown hgrow).wide hbl)
          · exact Below.grown (Below.drew (hb.alloc (by omega) _)) hgrow (by simp; omega) (fun g e => (hown.lt _ e).1)
        case measure => simp [intOf]; omega
    · obtain rfl : k = n := by omega
      rw [List.take_of_length_le (by rw [HL.out]; exact Nat.le_refl _)] at hown
      go_wp2
      go_ret
      exact ⟨_, _, rfl, hown, hb⟩
end Go.Proofs.Ytlncnicpiadaaaa

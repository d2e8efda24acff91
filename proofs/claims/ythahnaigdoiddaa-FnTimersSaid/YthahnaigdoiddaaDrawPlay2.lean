/- What DrawPlayClock of the reference draws: the operations. -/
import Derived.Test.YthahnaigdoiddaaDrawPlay
import Derived.Deep.DeepCutAuto
set_option linter.unusedSimpArgs false
set_option linter.unusedVariables false
set_option maxRecDepth 20000
namespace Go.Proofs.Ythahnaigdoiddaa
open Go.RowKit
set_option maxHeartbeats 3200000 in
theorem spec_DrawPlayClock (A0 : Option Addr) (c0 : Nat) (code : List UInt8) (w : World) (hr : Reads w w.heap.size A0 (code.map byteV)) (hm : code.length ≤ 1048576) :
    Calls Try.prog 5 #[.slice A0 code.length c0] w fun e w' => ∃ (now : Int) (Av : Option Addr) (nv cv : Nat) (A : Option Addr) (c : Nat) (ops : List ClockOp), e = .returned (.tuple #[.agg #[.int .i64 now, .slice Av nv cv], .slice A ops.length c]) ∧ ops.length ≤ 201 ∧ SlRd ClockOpR w' w'.heap.size (.slice A ops.length c) ops ∧ Below w.heap.size w w' := by
  obtain ⟨i0, hi0, hI0, hI1, hI2⟩ := info_parts info_ClockOp
  have HN := Lib.hid (fun (w' : World) (hb : Below w.heap.size w w') => spec_l07DrawOne A0 c0 code w' (hr.keep hb hb.size) hm)
  generalize code.length = n at *
  clear hr
  go_enter Try.func5, Try.ntmps5
  go_wp2_with fail
  have hb0 : Below w.heap.size w (w.alloc (.cells #[.int .i64 0, .slice none 0 0] 26)) := by (repeat (first | (with_reducible exact Below.refl _ _) | (with_reducible assumption) | ((with_reducible refine Below.setCell ?_ ?_ _); rotate_left; focus (first | omega | (simp; done) | (simp; omega))) | ((with_reducible refine Below.alloc ?_ ?_ _); rotate_left; focus (first | omega | (simp; done) | (simp; omega))) | (with_reducible refine Below.drew ?_) | (with_reducible refine below_drewN ?_ _) | (refine Below.trans ?_ (Below.mono (by with_reducible assumption) (by (first | omega | (simp; done) | (simp; omega)))))))
  have B0 : Blk (w.alloc (.cells #[.int .i64 0, .slice none 0 0] 26)) w.heap.size 26 #[.int .i64 0, .slice none 0 0] := Blk.new' rfl
  have hs0 : w.heap.size + 1 = (w.alloc (.cells #[.int .i64 0, .slice none 0 0] 26)).heap.size := by simp
  generalize (w.alloc (.cells #[.int .i64 0, .slice none 0 0] 26)) = wa at *
  refine (HN.out _ hb0).mono ?_
  rintro e w1 ⟨g, now, Av, nv, cv, rfl, hc1, hg1, hb1⟩
  have hgl := hc1.lt
  have hBg := hc1.le
  have hgw : w.heap.size < g := by omega
  replace B0 := B0.keep hb1
  replace hb1 := hb0.trans (hb1.mono (by omega))
  clear hs0 hb0
  have B5 : Blk ((w1.alloc (.cells #[.int .i64 now, .slice Av nv cv] 26)).alloc (.cells #[] 32)) w1.heap.size 26 #[.int .i64 now, .slice Av nv cv] := by (repeat (first | (with_reducible assumption) | ((with_reducible refine Blk.new' ?_); focus (simp; done)) | (with_reducible refine Blk.alloc ?_ _) | (with_reducible refine Blk.drew ?_) | (with_reducible refine Blk.drewN ?_ _) | ((with_reducible refine Blk.far ?_ ?_ _); rotate_left; focus (first | omega | (simp; done) | (simp; omega))) | (refine Blk.keep ?_ (by with_reducible assumption)) | (refine Blk.below ?_ (by with_reducible assumption) (by (first | omega | (simp; done) | (simp; omega))))))
  have hbA : Below w1.heap.size w1 ((w1.alloc (.cells #[.int .i64 now, .slice Av nv cv] 26)).alloc (.cells #[] 32)) := by (repeat (first | (with_reducible exact Below.refl _ _) | (with_reducible assumption) | ((with_reducible refine Below.setCell ?_ ?_ _); rotate_left; focus (first | omega | (simp; done) | (simp; omega))) | ((with_reducible refine Below.alloc ?_ ?_ _); rotate_left; focus (first | omega | (simp; done) | (simp; omega))) | (with_reducible refine Below.drew ?_) | (with_reducible refine below_drewN ?_ _) | (refine Below.trans ?_ (Below.mono (by with_reducible assumption) (by (first | omega | (simp; done) | (simp; omega)))))))
  have hlit : World.ownsRow _ _ 32 3 _ _ _ := World.ownsRow_lit (size := 3) (w1.alloc (.cells #[.int .i64 now, .slice Av nv cv] 26)) #[] 0 (Nat.le_refl _) (by simp [maxLen]) rfl
  have hlit2 : World.ownsRow ((w1.alloc (.cells #[.int .i64 now, .slice Av nv cv] 26)).alloc (.cells #[] 32)) (w1.heap.size + 1) 32 3 (.slice (some ⟨w1.heap.size + 1, 0, none⟩) 0 0) 0 [] := by simpa using own_base hlit (by simp)
  have hsA : w1.heap.size + 2 = ((w1.alloc (.cells #[.int .i64 now, .slice Av nv cv] 26)).alloc (.cells #[] 32)).heap.size := by simp
  replace B0 := B0.keep hbA
  replace hc1 := hc1.below hbA
  have hOA : Out (fun q => q = g) w1 ((w1.alloc (.cells #[.int .i64 now, .slice Av nv cv] 26)).alloc (.cells #[] 32)) := Out.of_below hbA
  clear hlit
  have hc5 := B5.cell
  go_wp2_with fail
  generalize ((w1.alloc (.cells #[.int .i64 now, .slice Av nv cv] 26)).alloc (.cells #[] 32)) = wb at *
  obtain ⟨b5, hb5⟩ : ∃ b5, b5 = w1.heap.size := ⟨_, rfl⟩
  have hgl1 := hgl
  have hb5l : w1.heap.size ≤ b5 := by omega
  rw [← hb5] at B5 hlit2 hsA hgl ⊢
  clear hb5 hbA
  refine (spec_l01Size A0 n c0 40 _ hm (by omega) (by omega)).mono ?_
  rintro e w' ⟨m, rfl, hm0, hm1, rfl⟩
  go_wp2_with fail
  refine (spec_l01Below g m _ hc1 (by omega)).mono ?_
  rintro e w2 ⟨x, rfl, hx0, hx1, -, hd2⟩
  have hx := hx1 (by omega)
  have hs2 := hd2.size
  replace B0 := B0.out hd2.2 (by omega)
  replace B5 := B5.out hd2.2 (by omega)
  have ho2 := own_drawn hlit2 hd2 (by omega)
  go_wp2_with fail
  refine (spec_l01Once g 30 _ hd2.1 (by omega)).mono ?_
  rintro e w3 ⟨b, rfl, hd3⟩
  have hs3 := hd3.size
  replace B0 := B0.out hd3.2 (by omega)
  replace B5 := B5.out hd3.2 (by omega)
  have ho3 := own_drawn ho2 hd3 (by omega)
  have hO3 : Out (fun q => q = g) w1 w3 := (hOA.trans hd2.2).trans hd3.2
  go_upto_if 24 with fail
  go_cut [8] (fun s8 wx => ∃ N : Nat, s8 = .int .i64 N ∧ N ≤ 201 ∧ Cur wa.heap.size wx g ∧ Blk wx w.heap.size 26 #[.int .i64 0, .slice none 0 0] ∧ Blk wx b5 26 #[.int .i64 now, .slice Av nv cv] ∧ wx.ownsRow (b5 + 1) 32 3 (.slice (some ⟨b5 + 1, 0, none⟩) 0 0) 0 [] ∧ Out (fun q => q = g) w1 wx)
  case first =>
    cases b
    · obtain ⟨N, rfl⟩ : ∃ N : Nat, x = N := ⟨x.toNat, by omega⟩
      go_wp2_with fail
      go_meet
      exact ⟨N, rfl, by omega, hd3.1, B0, B5, ho3, hO3⟩
    · go_wp2_with fail
      refine (spec_l01Below g 2 _ hd3.1 (by omega)).mono ?_
      rintro e w4 ⟨y, rfl, hy0, hy1, -, hd4⟩
      have hy := hy1 (by omega)
      have hs4 := hd4.size
      go_wp2_with fail
      go_meet
      exact ⟨(200 + y).toNat, by simp; omega, by omega, hd4.1, B0.out hd4.2 (by omega), B5.out hd4.2 (by omega), own_drawn ho3 hd4 (by omega), hO3.trans hd4.2⟩
  case rest =>
    obtain ⟨N, rfl, hN, hcN, B0N, B5N, hoN, hON⟩ := hcut
    obtain ⟨w5, hw5⟩ : ∃ w_, w_ = wc := ⟨_, rfl⟩
    subst hw5
    clear hd3 hd2 B0 B5 ho3 ho2 hO3 hx1 hx hc1 hlit2 hs2 hs3 hc5
    have hs5 := hON.size
    have hc5 := B5N.cell
    go_wp2_with fail
    go_loopw [6, 7, 9] (fun sl y i wr => ∃ (k : Nat) (Y : Int) (A1 : Option Addr) (c1 : Nat) (ops : List ClockOp), k ≤ N ∧ sl = .slice A1 k c1 ∧ y = .int .i64 Y ∧ i = .int .i64 k ∧ Hid (ops.length = k) ∧ Blk wr w.heap.size 26 #[.int .i64 0, .slice none 0 0] ∧ Blk wr b5 26 #[.int .i64 now, .slice Av nv cv] ∧ wr.ownsRow (b5 + 1) 32 3 (.slice A1 k c1) k (ops.flatMap ClockOp.cells) ∧ Cur wa.heap.size wr g ∧ Out (fun q => q = g) w1 wr) (fun _ _ i _ => N - (intOf i).toNat)
    case atStart => exact ⟨0, now, some ⟨b5 + 1, 0, none⟩, 0, [], Nat.zero_le _, rfl, rfl, rfl, rfl, B0N, B5N, hoN, hcN, hON⟩
    case round =>
      obtain ⟨k, Y, A1, c1, ops, hk, rfl, rfl, rfl, hol, R0, R5, hown, hcr, hOr⟩ := hrel
      clear B0N B5N hoN hcN hON hc5
      have hzr := hOr.size
      have hl5 := R5.lt
      by_cases hlt : k < N
      · have hltI : (k : Int) < (N : Int) := by omega
        go_wp2_with fail
        refine (spec_pickLit g wr [0, 0, 0, 1, 2, 2] hcr (by simp) (by simp)).mono ?_
        rintro e w2 ⟨K, rfl, -, hc2, hO2, hs2⟩
        go_wp2_with fail
        refine (spec_l01Below g 20 _ hc2 (by omega)).mono ?_
        rintro e w3 ⟨I, rfl, hJ0, hJ1, -, hd3⟩
        have hs3 := hd3.size
        have hJ := hJ1 (by omega)
        go_wp2_with fail
        refine (spec_l01Below g 12 _ hd3.1 (by omega)).mono ?_
        rintro e w4 ⟨Z, rfl, hZ0, hZ1, -, hd4⟩
        have hs4 := hd4.size
        have R04 := ((R0.out hO2 (by omega)).out hd3.2 (by omega)).out hd4.2 (by omega)
        have R54 := ((R5.out hO2 (by omega)).out hd3.2 (by omega)).out hd4.2 (by omega)
        have ho4 := own_drawn (own_drawn (own_out hown hO2 (fun q hq he => by have := (hown.lt q hq).1; omega)) hd3 (by omega)) hd4 (by omega)
        have hO4 := ((hOr.trans hO2).trans hd3.2).trans hd4.2
        have hb4 : Below w4.heap.size w4 (w4.alloc (.cells #[.int .i64 K, .int .i64 (1 + I), .int .i64 (wrap64 (Y + Z))] 32)) := by (repeat (first | (with_reducible exact Below.refl _ _) | (with_reducible assumption) | ((with_reducible refine Below.setCell ?_ ?_ _); rotate_left; focus (first | omega | (simp; done) | (simp; omega))) | ((with_reducible refine Below.alloc ?_ ?_ _); rotate_left; focus (first | omega | (simp; done) | (simp; omega))) | (with_reducible refine Below.drew ?_) | (with_reducible refine below_drewN ?_ _) | (refine Below.trans ?_ (Below.mono (by with_reducible assumption) (by (first | omega | (simp; done) | (simp; omega)))))))
        have B10 : Blk (w4.alloc (.cells #[.int .i64 K, .int .i64 (1 + I), .int .i64 (wrap64 (Y + Z))] 32)) w4.heap.size 32 #[.int .i64 K, .int .i64 (1 + I), .int .i64 (wrap64 (Y + Z))] := Blk.new' rfl
        have hs44 : w4.heap.size + 1 = (w4.alloc (.cells #[.int .i64 K, .int .i64 (1 + I), .int .i64 (wrap64 (Y + Z))] 32)).heap.size := by simp
        replace R04 := R04.keep hb4
        replace R54 := R54.keep hb4
        replace ho4 := own_below ho4 hb4
        replace hO4 := hO4.trans (Out.of_below hb4)
        have hc4 := hd4.1.below hb4
        go_upto_if 46 with fail
        generalize (w4.alloc (.cells #[.int .i64 K, .int .i64 (1 + I), .int .i64 (wrap64 (Y + Z))] 32)) = w5 at *
        generalize wrap64 (Y + Z) = A at *
        obtain ⟨b10, hb10⟩ : ∃ b, b = w4.heap.size := ⟨_, rfl⟩
        rw [← hb10] at B10 hs44 ⊢
        have hlb : wr.heap.size ≤ b10 := by omega
        clear hb10 hb4 hd4 hd3 hJ1 hZ1
        go_cut [7] (fun s7 wx => ∃ (Y1 K1 A1' : Int), s7 = .int .i64 Y1 ∧ Blk wx b10 32 #[.int .i64 K1, .int .i64 (1 + I), .int .i64 A1'] ∧ Cur wa.heap.size wx g ∧ Blk wx w.heap.size 26 #[.int .i64 0, .slice none 0 0] ∧ Blk wx b5 26 #[.int .i64 now, .slice Av nv cv] ∧ wx.ownsRow (b5 + 1) 32 3 (.slice A1 k c1) k (ops.flatMap ClockOp.cells) ∧ Out (fun q => q = g) w1 wx ∧ b10 + 1 ≤ wx.heap.size)
        case first =>
          have hc10 := B10.cell; have hf10 := B10.frozen
          cases hK : (K == 2)
          · go_wp2_with fail
            go_meet
            exact ⟨Y, K, A, rfl, B10, hc4, R04, R54, ho4, hO4, by omega⟩
          · go_wp2_with fail
            refine (spec_l01Below g 4 _ hc4 (by omega)).mono ?_
            rintro e w6 ⟨D, rfl, hD0, hD1, -, hd6⟩
            have hs6 := hd6.size
            have B10' := B10.out hd6.2 (by omega)
            clear hc10 hf10
            have hc10 := B10'.cell; have hf10 := B10'.frozen
            go_wp2_with fail
            go_meet
            refine ⟨_, K, _, rfl, B10'.set_ 2 _, ?_, ?_, ?_, ?_, ?_, ?_⟩
            · exact hd6.1.out (out_set _ _ _ _) (fun q hq => by omega)
            · exact (R04.out hd6.2 (by omega)).far (by simp; omega) _
            · exact (R54.out hd6.2 (by omega)).far (by simp; omega) _
            · exact own_out (own_drawn ho4 hd6 (by omega)) (out_set _ _ _ _) (fun q hq he => by have := (hown.lt q hq).2; omega)
            · exact (hO4.trans hd6.2).newer (by simp; omega) _
            · simp; omega
        case rest =>
          obtain ⟨Y1, K1, A1', rfl, B10, hc5, R05, R55, ho5, hO5, hs5⟩ := hcut
          obtain ⟨w7, hw7⟩ : ∃ w_, w_ = wc := ⟨_, rfl⟩
          subst hw7
          clear hc4 R04 R54 ho4 hO4
          go_wp2_with fail
          refine (spec_l01Once g 30 _ hc5 (by omega)).mono ?_
          rintro e w8 ⟨bb, rfl, hd8⟩
          have hs8 := hd8.size
          replace B10 := B10.out hd8.2 (by omega)
          replace R05 := R05.out hd8.2 (by omega)
          replace R55 := R55.out hd8.2 (by omega)
          replace ho5 := own_drawn ho5 hd8 (by omega)
          replace hO5 := hO5.trans hd8.2
          go_upto_if 54 with fail
          go_cut [7] (fun s7 wx => ∃ (K1 : Int), s7 = .int .i64 Y1 ∧ Blk wx b10 32 #[.int .i64 K1, .int .i64 (1 + I), .int .i64 A1'] ∧ Cur wa.heap.size wx g ∧ Blk wx w.heap.size 26 #[.int .i64 0, .slice none 0 0] ∧ Blk wx b5 26 #[.int .i64 now, .slice Av nv cv] ∧ wx.ownsRow (b5 + 1) 32 3 (.slice A1 k c1) k (ops.flatMap ClockOp.cells) ∧ Out (fun q => q = g) w1 wx ∧ b10 + 1 ≤ wx.heap.size)
          case first =>
            cases bb
            · go_wp2_with fail
              go_meet
              exact ⟨K1, rfl, B10, hd8.1, R05, R55, ho5, hO5, by omega⟩
            · go_wp2_with fail
              refine (spec_pickLit g w8 [-1, 3] hd8.1 (by simp) (by simp)).mono ?_
              rintro e w9 ⟨D, rfl, -, hc9, hO9, hs9⟩
              have B10' := B10.out hO9 (by omega)
              have hc10 := B10'.cell; have hf10 := B10'.frozen
              go_wp2_with fail
              go_meet
              refine ⟨D, rfl, B10'.set_ 0 _, ?_, ?_, ?_, ?_, ?_, ?_⟩
              · exact hc9.out (out_set _ _ _ _) (fun q hq => by omega)
              · exact (R05.out hO9 (by omega)).far (by simp; omega) _
              · exact (R55.out hO9 (by omega)).far (by simp; omega) _
              · exact own_out (own_out ho5 hO9 (fun q hq he => by have := (hown.lt q hq).1; omega)) (out_set _ _ _ _) (fun q hq he => by have := (hown.lt q hq).2; omega)
              · exact (hO5.trans hO9).newer (by simp; omega) _
              · simp; omega
          case rest =>
            clear B10 R05 R55 ho5 hO5
            obtain ⟨K2, rfl, B10, hc9, R09, R59, ho9, hO9, hs9⟩ := hcut
            obtain ⟨wd, hwd⟩ : ∃ w_, w_ = wc := ⟨_, rfl⟩
            subst hwd
            have hc10 := B10.cell; have hf10 := B10.frozen
            have hl9 := R59.lt
            have HL := hol
            clear hol
            go_wp2_with (first | (at_builtin; go_loud (refine wpList_append_own_at _ rfl _ _ 27 rfl (b5 + 1) 32 i0 _ 3 24 Try.underlying27 hi0 hI0 hI1 hI2 rfl (by decide) _ _ _ rfl (ho9.alloc _) ⟨wd.heap.size, 0, none⟩ 1 1 [.int .i64 K2, .int .i64 (1 + I), .int .i64 A1'] rfl rfl ?c1 ?c2 ?c3 ?c4 ?c5 ?_; (case c1 => exact (World.news_of_block (cs := #[.int .i64 K2, .int .i64 (1 + I), .int .i64 A1']) (t := 32) (fr := (0, 0)) (heap_alloc_new _ _))); (case c2 => simp [Value.oneCell']); (case c3 => (simp only [maxLen]; omega)); (case c4 => omega); (case c5 => (simp; omega)); intro v' wA hown1 hgrow hnil hat; obtain ⟨gg, cap, rfl, hg1, hg2⟩ := hown1.form (by omega); skip)))
            go_roundw
            case rel =>
              have hzg : wd.heap.size + 1 ≤ wA.heap.size := by simpa using hgrow.size
              have hlow : ∀ q, (Value.slice A1 k c1).ownBlock = some q → b5 + 1 ≤ q := fun q e => (hown.lt q e).1
              have hne : ∀ q, q < b5 + 1 → some q ≠ (Value.slice A1 k c1).ownBlock := fun q hq e => by have := (hown.lt _ e.symm).1; omega
              refine ⟨k + 1, Y1, some ⟨gg, 0, none⟩, cap, ops ++ [⟨K2, 1 + I, A1'⟩], by omega, rfl, rfl, by go_num, Lib.hid (by rw [List.length_append, HL.out]; rfl), ?_, ?_, ?_, ?_, ?_⟩
              · exact Blk.grown (R09.alloc _) hgrow (hne _ (by omega))
              · exact Blk.grown (R59.alloc _) hgrow (hne _ (by omega))
              · rw [List.flatMap_append]; exact hown1
              · exact (hc9.below ((Below.refl _ wd).alloc (Nat.le_refl _) _)).out (out_gr hgrow) (fun q e => by have := hlow q e; omega)
              · exact Out.growR (hO9.alloc _) hgrow (fun q e => by have := hlow q e; omega)
            case measure => simp [intOf]; omega
      · obtain rfl : k = N := by omega
        have hc5 := R5.cell; have hf5 := R5.frozen
        have hc0 := R0.cell; have hf0 := R0.frozen
        have hl0 := R0.lt
        go_wp2_with fail
        have hbz : Below w.heap.size w wr := hb1.trans (hOr.below (B := w.heap.size) (by have := hb1.size; omega) (fun q hq => by omega))
        refine bodyPost_ret (v := .tuple #[.agg #[.int .i64 now, .slice Av nv cv], .slice A1 k c1]) (by simp [results, Try.results5, go_sem, hc0, hf0]) rfl ⟨now, Av, nv, cv, A1, c1, ops, by rw [hol.out], by rw [hol.out]; omega, ?_, by (repeat (first | (with_reducible exact Below.refl _ _) | (with_reducible assumption) | ((with_reducible refine Below.setCell ?_ ?_ _); rotate_left; focus (first | omega | (simp; done) | (simp; omega))) | ((with_reducible refine Below.alloc ?_ ?_ _); rotate_left; focus (first | omega | (simp; done) | (simp; omega))) | (with_reducible refine Below.drew ?_) | (with_reducible refine below_drewN ?_ _) | (refine Below.trans ?_ (Below.mono (by with_reducible assumption) (by (first | omega | (simp; done) | (simp; omega)))))))⟩
        rw [hol.out]
        exact rd_row (by omega) (fun _ => trivial) hol.out (own_setCell (own_setCell hown (by simp; omega) _) (by simp; omega) _)
end Go.Proofs.Ythahnaigdoiddaa

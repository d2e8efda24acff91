/- What DrawBelow of the reference draws. -/
import Derived.Test.YtcfhnhhgnophhaaPkForest
set_option linter.unusedSimpArgs false
set_option linter.unusedVariables false
set_option maxRecDepth 20000
namespace Go.Proofs.Ytcfhnhhgnophhaa
open Go.RowKit
variable {B : Nat}
set_option maxHeartbeats 3200000 in
theorem spec_l08DrawId (g : Nat) (A : Option Addr) (N c : Nat) (ds : List TokD) (w : World) (hc : Cur B w g) (hF : FDr w (fun q => q ≤ g) A N c ds) :
    Calls Try.prog 64 #[.pointer (some ⟨g, 0, none⟩), .agg #[.slice A N c]] w fun e w' => ∃ x : Int, e = .returned (.int .i64 x) ∧ Cur B w' g ∧ Out (fun q => q = g) w w' := by
  have hgl := hc.lt
  have hBg := hc.le
  have HF := Lib.hid hF
  have hN := hF.few
  clear hF
  have hbA : Below w.heap.size w (w.alloc (.cells #[.slice A N c] 26)) := by (repeat (first | (with_reducible exact Below.refl _ _) | (with_reducible assumption) | ((with_reducible refine Below.setCell ?_ ?_ _); rotate_left; focus (first | omega | (simp; done) | (simp; omega))) | ((with_reducible refine Below.alloc ?_ ?_ _); rotate_left; focus (first | omega | (simp; done) | (simp; omega))) | (with_reducible refine Below.drew ?_) | (with_reducible refine below_drewN ?_ _) | (refine Below.trans ?_ (Below.mono (by with_reducible assumption) (by (first | omega | (simp; done) | (simp; omega)))))))
  have B3 : Blk (w.alloc (.cells #[.slice A N c] 26)) w.heap.size 26 #[.slice A N c] := Blk.new' rfl
  have HsA : Hid (w.heap.size + 1 = (w.alloc (.cells #[.slice A N c] 26)).heap.size) := Lib.hid (by simp)
  have hcA := hc.below hbA
  have hFA := Lib.hid (HF.out.keep hbA)
  have hc3 := B3.cell
  go_enter Try.func64, Try.ntmps64
  go_upto_region 1 with fail
  generalize (w.alloc (.cells #[.slice A N c] 26)) = wa at *
  have hsA := HsA.out
  obtain ⟨b3, hb3⟩ : ∃ b3, b3 = w.heap.size := ⟨_, rfl⟩
  rw [← hb3] at B3 hc3 ⊢
  have hgb : g < b3 := by omega
  have hOA := Out.of_below (S := fun q => q = g) hbA
  clear hb3 HsA hbA HF
  go_cut [13] (fun s13 wx => ∃ b : Bool, s13 = .bool b ∧ (b = true → 0 < N) ∧ Cur B wx g ∧ Out (fun q => q = g) wa wx)
  case first =>
    by_cases h0 : (0 : Int) < (N : Int)
    · go_wp2_with fail
      refine (spec_l01Once g 6 _ hcA (by omega)).mono ?_
      rintro e w7 ⟨bb, rfl, hd7⟩
      go_wp2_with fail
      go_meet
      exact ⟨!bb, by simp, fun _ => by omega, hd7.1, hd7.2⟩
    · go_wp2_with fail
      go_meet
      exact ⟨false, rfl, by simp, hcA, Out.refl _ _⟩
  case rest =>
    obtain ⟨b, rfl, hbN, hcu, hO⟩ := hcut
    obtain ⟨w7, hw7⟩ : ∃ w_, w_ = wc := ⟨_, rfl⟩
    subst hw7
    have B37 := B3.out hO (by omega)
    clear hc3
    cases b
    · go_wp2_with fail
      refine (spec_pickLit g w7 [0, 1, 2, -1, 999] hcu (by simp) (by simp)).mono ?_
      rintro e w8 ⟨v, rfl, -, hc8, hO8, -⟩
      go_wp2
      go_ret
      exact ⟨v, rfl, hc8, (hOA.trans hO).trans hO8⟩
    · have h0 := hbN rfl
      have HF7 := Lib.hid (hFA.out.out hO (fun q hq => by omega))
      obtain ⟨bR, offR, rfl, hbR, -⟩ := HF7.out.row.1 (by rw [flat_length TokD.cells 7 TokD.len, HF7.out.len]; omega)
      have hc3 := B37.cell
      go_wp2_with fail
      go_region_law (first | (go_simp; go_at_call 55; refine (spec_l01Below g N _ (hcu.below (by (repeat (first | (with_reducible exact Below.refl _ _) | (with_reducible assumption) | ((with_reducible refine Below.setCell ?_ ?_ _); rotate_left; focus (first | omega | (simp; done) | (simp; omega))) | ((with_reducible refine Below.alloc ?_ ?_ _); rotate_left; focus (first | omega | (simp; done) | (simp; omega))) | (with_reducible refine Below.drew ?_) | (with_reducible refine below_drewN ?_ _) | (refine Below.trans ?_ (Below.mono (by with_reducible assumption) (by (first | omega | (simp; done) | (simp; omega))))))))) (by omega)).mono ?_; rintro e wA ⟨y, rfl, hy0, hy1, -, hdA⟩; have hyn := hy1 (by omega); obtain ⟨k, rfl⟩ : ∃ k : Nat, y = k := ⟨y.toNat, by omega⟩; have hOg : Out (fun q => q = g) w7 wA := (Out.trans (Out.of_below (by (repeat (first | (with_reducible exact Below.refl _ _) | (with_reducible assumption) | ((with_reducible refine Below.setCell ?_ ?_ _); rotate_left; focus (first | omega | (simp; done) | (simp; omega))) | ((with_reducible refine Below.alloc ?_ ?_ _); rotate_left; focus (first | omega | (simp; done) | (simp; omega))) | (with_reducible refine Below.drew ?_) | (with_reducible refine below_drewN ?_ _) | (refine Below.trans ?_ (Below.mono (by with_reducible assumption) (by (first | omega | (simp; done) | (simp; omega))))))))) hdA.2); have BA3 := B37.out hOg (by omega); have hcA3 := BA3.cell; have hkl : k < ds.length := (by rw [HF7.out.len]; omega); have hra := row_all (HF7.out.row.out hOg (fun q hq => by omega)) (List.getElem?_eq_getElem hkl); have r0 := hra.1; clear hra; generalize (ds[k]'hkl).t.Id = idk at r0; clear hkl))
      all_goals
        go_wp2_with fail
        go_ret
        exact ⟨_, rfl, hdA.1, (hOA.trans hO).trans hOg⟩
set_option maxHeartbeats 3200000 in
theorem spec_DrawFindToken (A0 : Option Addr) (c0 : Nat) (code : List UInt8) (w : World) (hr : Reads w w.heap.size A0 (code.map byteV)) (hm : code.length ≤ 1048576) :
    Calls Try.prog 37 #[.slice A0 code.length c0] w fun e w' => ∃ (A : Option Addr) (N c : Nat) (ds : List TokD) (now : Int), e = .returned (.tuple #[.agg #[.slice A N c], .int .i64 now]) ∧ FDr w' (Low w.heap.size) A N c ds ∧ Below w.heap.size w w' := by
  have HN := Lib.hid (fun (w' : World) (hb : Below w.heap.size w w') => spec_l08DrawOne (B := w.heap.size) A0 c0 code w' (hr.below hb (Nat.le_refl _)) hb.size hm)
  generalize code.length = n at *
  clear hr
  go_enter Try.func37, Try.ntmps37
  go_wp2_with fail
  have hb0 : Below w.heap.size w (w.alloc (.cells #[.slice none 0 0] 26)) := by (repeat (first | (with_reducible exact Below.refl _ _) | (with_reducible assumption) | ((with_reducible refine Below.setCell ?_ ?_ _); rotate_left; focus (first | omega | (simp; done) | (simp; omega))) | ((with_reducible refine Below.alloc ?_ ?_ _); rotate_left; focus (first | omega | (simp; done) | (simp; omega))) | (with_reducible refine Below.drew ?_) | (with_reducible refine below_drewN ?_ _) | (refine Below.trans ?_ (Below.mono (by with_reducible assumption) (by (first | omega | (simp; done) | (simp; omega)))))))
  have B2 : Blk (w.alloc (.cells #[.slice none 0 0] 26)) w.heap.size 26 #[.slice none 0 0] := Blk.new' rfl
  have hs0 : w.heap.size + 1 = (w.alloc (.cells #[.slice none 0 0] 26)).heap.size := by simp
  generalize (w.alloc (.cells #[.slice none 0 0] 26)) = wa at *
  refine (HN.out _ hb0).mono ?_
  rintro e w1 ⟨g, A, N, c, ds, rfl, hc1, hg1, hF, hb1⟩
  have hgl := hc1.lt
  have hBg := hc1.le
  replace B2 := B2.keep hb1
  replace hb1 := hb0.trans (hb1.mono (by omega))
  have hb5 : Below w1.heap.size w1 (w1.alloc (.cells #[.slice A N c] 26)) := by (repeat (first | (with_reducible exact Below.refl _ _) | (with_reducible assumption) | ((with_reducible refine Below.setCell ?_ ?_ _); rotate_left; focus (first | omega | (simp; done) | (simp; omega))) | ((with_reducible refine Below.alloc ?_ ?_ _); rotate_left; focus (first | omega | (simp; done) | (simp; omega))) | (with_reducible refine Below.drew ?_) | (with_reducible refine below_drewN ?_ _) | (refine Below.trans ?_ (Below.mono (by with_reducible assumption) (by (first | omega | (simp; done) | (simp; omega)))))))
  have B5 : Blk (w1.alloc (.cells #[.slice A N c] 26)) w1.heap.size 26 #[.slice A N c] := Blk.new' rfl
  have B25 := B2.keep hb5
  have hc5c := hc1.below hb5
  have hF5 := hF.keep hb5
  have HsB : Hid (w1.heap.size + 1 = (w1.alloc (.cells #[.slice A N c] 26)).heap.size) := Lib.hid (by simp)
  go_wp2_with fail
  generalize (w1.alloc (.cells #[.slice A N c] 26)) = w5 at *
  have hsB := HsB.out
  obtain ⟨b5, hb5e⟩ : ∃ b5, b5 = w1.heap.size := ⟨_, rfl⟩
  obtain ⟨b2, hb2e⟩ : ∃ b2, b2 = w.heap.size := ⟨_, rfl⟩
  rw [← hb5e] at B5 ⊢
  rw [← hb2e] at B25 ⊢
  have hg5 : g < b5 := by omega
  have h25 : b5 < w5.heap.size := by omega
  have h2g : b2 < g := by omega
  have hwb2 : w.heap.size ≤ b2 := by omega
  have hbw5 := hb1.trans (hb5.mono hb1.size)
  clear hb5e hb2e hsB HsB hb5 hs0 hb0 hF hc1 B2
  have HDI := Lib.hid (fun (w' : World) (hb : Below w5.heap.size w5 w') => spec_l08DrawId g A N c ds w' (hc5c.below hb) (hF5.keep hb))
  have hc5 := B5.cell; have hc2 := B25.cell; have hf2 := B25.frozen
  go_region_law (first | (go_simp; go_at_call 64; ((refine (HDI.out _ ?_).mono ?_); (focus (repeat (first | (with_reducible exact Below.refl _ _) | (with_reducible assumption) | ((with_reducible refine Below.setCell ?_ ?_ _); rotate_left; focus (first | omega | (simp; done) | (simp; omega))) | ((with_reducible refine Below.alloc ?_ ?_ _); rotate_left; focus (first | omega | (simp; done) | (simp; omega))) | (with_reducible refine Below.drew ?_) | (with_reducible refine below_drewN ?_ _) | (refine Below.trans ?_ (Below.mono (by with_reducible assumption) (by (first | omega | (simp; done) | (simp; omega))))))))); rintro e wA ⟨now, rfl, hcA, hdA⟩; have hOg : Out (fun q => q = g) w5 wA := (Out.trans (Out.of_below (by (repeat (first | (with_reducible exact Below.refl _ _) | (with_reducible assumption) | ((with_reducible refine Below.setCell ?_ ?_ _); rotate_left; focus (first | omega | (simp; done) | (simp; omega))) | ((with_reducible refine Below.alloc ?_ ?_ _); rotate_left; focus (first | omega | (simp; done) | (simp; omega))) | (with_reducible refine Below.drew ?_) | (with_reducible refine below_drewN ?_ _) | (refine Below.trans ?_ (Below.mono (by with_reducible assumption) (by (first | omega | (simp; done) | (simp; omega))))))))) hdA); have BA5 := B5.out hOg (by omega); have BA2 := B25.out hOg (by omega); have hcA5 := BA5.cell; have hcA2 := BA2.cell; have hfA2 := BA2.frozen))
  all_goals
    have hFA := (hF5.out hOg (fun q hq => by omega)).out (out_set wA b2 0 (.slice A N c)) (fun q hq => by omega)
    have hsA := hOg.size
    go_wp2_with fail
    refine bodyPost_ret (v := .tuple #[.agg #[.slice A N c], .int .i64 now]) (by simp [results, Try.results37, go_sem, hcA2, hfA2]) rfl ⟨A, N, c, ds, now, rfl, hFA.weak (fun q hq => Or.inl (by have : q < w.heap.size := hq; omega)), ?_⟩
    exact (hbw5.trans (hOg.below (B := w.heap.size) (by have := hbw5.size; omega) (fun q hq => by omega))).setCell (by simp; omega) _
set_option maxHeartbeats 1600000 in
theorem spec_DrawBelow (A0 : Option Addr) (c0 : Nat) (code : List UInt8) (w : World) (hr : Reads w w.heap.size A0 (code.map byteV)) (hm : code.length ≤ 1048576) :
    Calls Try.prog 12 #[.slice A0 code.length c0] w fun e w' => ∃ (A : Option Addr) (N c : Nat) (ds : List TokD) (id : Int), e = .returned (.tuple #[.agg #[.slice A N c], .int .i64 id]) ∧ FDr w' (Low w.heap.size) A N c ds ∧ Below w.heap.size w w' := by
  have HN := Lib.hid (fun (w' : World) (hb : Below w.heap.size w w') => spec_DrawFindToken A0 c0 code w' (hr.keep hb hb.size) hm)
  generalize code.length = n at *
  clear hr
  go_enter Try.func12, Try.ntmps12
  go_wp2_with fail
  have hb0 : Below w.heap.size w (w.alloc (.cells #[.slice none 0 0] 26)) := by (repeat (first | (with_reducible exact Below.refl _ _) | (with_reducible assumption) | ((with_reducible refine Below.setCell ?_ ?_ _); rotate_left; focus (first | omega | (simp; done) | (simp; omega))) | ((with_reducible refine Below.alloc ?_ ?_ _); rotate_left; focus (first | omega | (simp; done) | (simp; omega))) | (with_reducible refine Below.drew ?_) | (with_reducible refine below_drewN ?_ _) | (refine Below.trans ?_ (Below.mono (by with_reducible assumption) (by (first | omega | (simp; done) | (simp; omega)))))))
  have B2 : Blk (w.alloc (.cells #[.slice none 0 0] 26)) w.heap.size 26 #[.slice none 0 0] := Blk.new' rfl
  have hs0 : w.heap.size + 1 = (w.alloc (.cells #[.slice none 0 0] 26)).heap.size := by simp
  generalize (w.alloc (.cells #[.slice none 0 0] 26)) = wa at *
  refine (HN.out _ hb0).mono ?_
  rintro e w1 ⟨A, N, c, ds, id, rfl, hF, hb1⟩
  have hl2 : w.heap.size < wa.heap.size := by omega
  replace B2 := B2.keep hb1
  replace hb1 := hb0.trans (hb1.mono (by omega))
  have hc2 := B2.cell; have hf2 := B2.frozen
  have hFA := (hF.weak (X' := Low wa.heap.size) (fun q hq => Or.inl hq)).out (out_set w1 w.heap.size 0 (.slice A N c)) (fun q hq => by show q < wa.heap.size; omega)
  have HFA := Lib.hid hFA
  clear hF hFA hs0
  go_wp2_with fail
  refine bodyPost_ret (v := .tuple #[.agg #[.slice A N c], .int .i64 id]) (by simp [results, Try.results12, go_sem, hc2, hf2]) rfl ⟨A, N, c, ds, id, rfl, HFA.out.weak (fun q hq => Or.inl (by have : q < w.heap.size := hq; show q < wa.heap.size; omega)), hb1.setCell (by simp) _⟩
end Go.Proofs.Ytcfhnhhgnophhaa

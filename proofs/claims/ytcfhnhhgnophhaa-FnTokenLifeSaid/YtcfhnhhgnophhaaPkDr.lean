/- What DrawBelow of the reference draws. What DrawMakeToken of the reference draws. The laws' helper over texts: sameTexts. -/
import Derived.Test.YtcfhnhhgnophhaaPkForest
import Derived.Test.YtcfhnhhgnophhaaImplWithin
import Derived.Test.YtcfhnhhgnophhaaStringS2
set_option linter.unusedSimpArgs false
set_option linter.unusedVariables false
set_option maxRecDepth 20000
namespace Go.Proofs.Ytcfhnhhgnophhaa
open Go.RowKit
variable {B : Nat}
set_option maxHeartbeats 3200000 in
theorem spec_l08DrawId (g : Nat) (A : Option Addr) (N c : Nat) (ds : List TokD) (w : World) (hc : Cur B w g) (hF : FDr w (fun q => q ≤ g) A N c ds) :
    Calls Try.prog 64 #[.pointer (some ⟨g, 0, none⟩), .agg #[.slice A N c]] w fun e w' => ∃ x : Int, e = .returned (.int .i64 x) ∧ Cur B w' g ∧ Out (fun q => q = g) w w' := by
  have hgl := hc.lt
  have hBg := hc.le
  have HF := Lib.hid hF
  have hN := hF.few
  clear hF
  have hbA : Below w.heap.size w (w.alloc (.cells #[.slice A N c] 26)) := by (repeat (first | (with_reducible exact Below.refl _ _) | (with_reducible assumption) | ((with_reducible refine Below.setCell ?_ ?_ _); rotate_left; focus (first | omega | (simp; done) | (simp; omega))) | ((with_reducible refine Below.alloc ?_ ?_ _); rotate_left; focus (first | omega | (simp; done) | (simp; omega))) | (with_reducible refine Below.drew ?_) | (with_reducible refine below_drewN ?_ _) | (refine Below.trans ?_ (Below.mono (by with_reducible assumption) (by (first | omega | (simp; done) | (simp; omega)))))))
  have B3 : Blk (w.alloc (.cells #[.slice A N c] 26)) w.heap.size 26 #[.slice A N c] := Blk.new' rfl
  have HsA : Hid (w.heap.size + 1 = (w.alloc (.cells #[.slice A N c] 26)).heap.size) := Lib.hid (by simp)
  have hcA := hc.below hbA
  have hFA := Lib.hid (HF.out.keep hbA)
  have hc3 := B3.cell
  go_enter Try.func64, Try.ntmps64
  go_upto_region 1 with fail
  generalize (w.alloc (.cells #[.slice A N c] 26)) = wa at *
  have hsA := HsA.out
  obtain ⟨b3, hb3⟩ : ∃ b3, b3 = w.heap.size := ⟨_, rfl⟩
  rw [← hb3] at B3 hc3 ⊢
  have hgb : g < b3 := by omega
  have hOA := Out.of_below (S := fun q => q = g) hbA
  clear hb3 HsA hbA HF
  go_cut [13] (fun s13 wx => ∃ b : Bool, s13 = .bool b ∧ (b = true → 0 < N) ∧ Cur B wx g ∧ Out (fun q => q = g) wa wx)
  case first =>
    by_cases h0 : (0 : Int) < (N : Int)
    · go_wp2_with fail
      refine (spec_l01Once g 6 _ hcA (by omega)).mono ?_
      rintro e w7 ⟨bb, rfl, hd7⟩
      go_wp2_with fail
      go_meet
      exact ⟨!bb, by simp, fun _ => by omega, hd7.1, hd7.2⟩
    · go_wp2_with fail
      go_meet
      exact ⟨false, rfl, by simp, hcA, Out.refl _ _⟩
  case rest =>
    obtain ⟨b, rfl, hbN, hcu, hO⟩ := hcut
    obtain ⟨w7, hw7⟩ : ∃ w_, w_ = wc := ⟨_, rfl⟩
    subst hw7
    have B37 := B3.out hO (by omega)
    clear hc3
    cases b
    · go_wp2_with fail
      refine (spec_pickLit g w7 [0, 1, 2, -1, 999] hcu (by simp) (by simp)).mono ?_
      rintro e w8 ⟨v, rfl, -, hc8, hO8, -⟩
      go_wp2
      go_ret
      exact ⟨v, rfl, hc8, (hOA.trans hO).trans hO8⟩
    · have h0 := hbN rfl
      have HF7 := Lib.hid (hFA.out.out hO (fun q hq => by omega))
      obtain ⟨bR, offR, rfl, hbR, -⟩ := HF7.out.row.1 (by rw [flat_length TokD.cells 7 TokD.len, HF7.out.len]; omega)
      have hc3 := B37.cell
      go_wp2_with fail
      go_region_law (first | (go_simp; go_at_call 55; refine (spec_l01Below g N _ (hcu.below (by (repeat (first | (with_reducible exact Below.refl _ _) | (with_reducible assumption) | ((with_reducible refine Below.setCell ?_ ?_ _); rotate_left; focus (first | omega | (simp; done) | (simp; omega))) | ((with_reducible refine Below.alloc ?_ ?_ _); rotate_left; focus (first | omega | (simp; done) | (simp; omega))) | (with_reducible refine Below.drew ?_) | (with_reducible refine below_drewN ?_ _) | (refine Below.trans ?_ (Below.mono (by with_reducible assumption) (by (first | omega | (simp; done) | (simp; omega))))))))) (by omega)).mono ?_; rintro e wA ⟨y, rfl, hy0, hy1, -, hdA⟩; have hyn := hy1 (by omega); obtain ⟨k, rfl⟩ : ∃ k : Nat, y = k := ⟨y.toNat, by omega⟩; have hOg : Out (fun q => q = g) w7 wA := (Out.trans (Out.of_below (by (repeat (first | (with_reducible exact Below.refl _ _) | (with_reducible assumption) | ((with_reducible refine Below.setCell ?_ ?_ _); rotate_left; focus (first | omega | (simp; done) | (simp; omega))) | ((with_reducible refine Below.alloc ?_ ?_ _); rotate_left; focus (first | omega | (simp; done) | (simp; omega))) | (with_reducible refine Below.drew ?_) | (with_reducible refine below_drewN ?_ _) | (refine Below.trans ?_ (Below.mono (by with_reducible assumption) (by (first | omega | (simp; done) | (simp; omega))))))))) hdA.2); have BA3 := B37.out hOg (by omega); have hcA3 := BA3.cell; have hkl : k < ds.length := (by rw [HF7.out.len]; omega); have hra := row_all (HF7.out.row.out hOg (fun q hq => by omega)) (List.getElem?_eq_getElem hkl); have r0 := hra.1; clear hra; generalize (ds[k]'hkl).t.Id = idk at r0; clear hkl))
      all_goals
        go_wp2_with fail
        go_ret
        exact ⟨_, rfl, hdA.1, (hOA.trans hO).trans hOg⟩
set_option maxHeartbeats 3200000 in
theorem spec_DrawFindToken (A0 : Option Addr) (c0 : Nat) (code : List UInt8) (w : World) (hr : Reads w w.heap.size A0 (code.map byteV)) (hm : code.length ≤ 1048576) :
    Calls Try.prog 37 #[.slice A0 code.length c0] w fun e w' => ∃ (A : Option Addr) (N c : Nat) (ds : List TokD) (now : Int), e = .returned (.tuple #[.agg #[.slice A N c], .int .i64 now]) ∧ FDr w' (Low w.heap.size) A N c ds ∧ Below w.heap.size w w' := by
  have HN := Lib.hid (fun (w' : World) (hb : Below w.heap.size w w') => spec_l08DrawOne (B := w.heap.size) A0 c0 code w' (hr.below hb (Nat.le_refl _)) hb.size hm)
  generalize code.length = n at *
  clear hr
  go_enter Try.func37, Try.ntmps37
  go_wp2_with fail
  have hb0 : Below w.heap.size w (w.alloc (.cells #[.slice none 0 0] 26)) := by (repeat (first | (with_reducible exact Below.refl _ _) | (with_reducible assumption) | ((with_reducible refine Below.setCell ?_ ?_ _); rotate_left; focus (first | omega | (simp; done) | (simp; omega))) | ((with_reducible refine Below.alloc ?_ ?_ _); rotate_left; focus (first | omega | (simp; done) | (simp; omega))) | (with_reducible refine Below.drew ?_) | (with_reducible refine below_drewN ?_ _) | (refine Below.trans ?_ (Below.mono (by with_reducible assumption) (by (first | omega | (simp; done) | (simp; omega)))))))
  have B2 : Blk (w.alloc (.cells #[.slice none 0 0] 26)) w.heap.size 26 #[.slice none 0 0] := Blk.new' rfl
  have hs0 : w.heap.size + 1 = (w.alloc (.cells #[.slice none 0 0] 26)).heap.size := by simp
  generalize (w.alloc (.cells #[.slice none 0 0] 26)) = wa at *
  refine (HN.out _ hb0).mono ?_
  rintro e w1 ⟨g, A, N, c, ds, rfl, hc1, hg1, hF, hb1⟩
  have hgl := hc1.lt
  have hBg := hc1.le
  replace B2 := B2.keep hb1
  replace hb1 := hb0.trans (hb1.mono (by omega))
  have hb5 : Below w1.heap.size w1 (w1.alloc (.cells #[.slice A N c] 26)) := by (repeat (first | (with_reducible exact Below.refl _ _) | (with_reducible assumption) | ((with_reducible refine Below.setCell ?_ ?_ _); rotate_left; focus (first | omega | (simp; done) | (simp; omega))) | ((with_reducible refine Below.alloc ?_ ?_ _); rotate_left; focus (first | omega | (simp; done) | (simp; omega))) | (with_reducible refine Below.drew ?_) | (with_reducible refine below_drewN ?_ _) | (refine Below.trans ?_ (Below.mono (by with_reducible assumption) (by (first | omega | (simp; done) | (simp; omega)))))))
  have B5 : Blk (w1.alloc (.cells #[.slice A N c] 26)) w1.heap.size 26 #[.slice A N c] := Blk.new' rfl
  have B25 := B2.keep hb5
  have hc5c := hc1.below hb5
  have hF5 := hF.keep hb5
  have HsB : Hid (w1.heap.size + 1 = (w1.alloc (.cells #[.slice A N c] 26)).heap.size) := Lib.hid (by simp)
  go_wp2_with fail
  generalize (w1.alloc (.cells #[.slice A N c] 26)) = w5 at *
  have hsB := HsB.out
  obtain ⟨b5, hb5e⟩ : ∃ b5, b5 = w1.heap.size := ⟨_, rfl⟩
  obtain ⟨b2, hb2e⟩ : ∃ b2, b2 = w.heap.size := ⟨_, rfl⟩
  rw [← hb5e] at B5 ⊢
  rw [← hb2e] at B25 ⊢
  have hg5 : g < b5 := by omega
  have h25 : b5 < w5.heap.size := by omega
  have h2g : b2 < g := by omega
  have hwb2 : w.heap.size ≤ b2 := by omega
  have hbw5 := hb1.trans (hb5.mono hb1.size)
  clear hb5e hb2e hsB HsB hb5 hs0 hb0 hF hc1 B2
  have HDI := Lib.hid (fun (w' : World) (hb : Below w5.heap.size w5 w') => spec_l08DrawId g A N c ds w' (hc5c.below hb) (hF5.keep hb))
  have hc5 := B5.cell; have hc2 := B25.cell; have hf2 := B25.frozen
  go_region_law (first | (go_simp; go_at_call 64; ((refine (HDI.out _ ?_).mono ?_); (focus (repeat (first | (with_reducible exact Below.refl _ _) | (with_reducible assumption) | ((with_reducible refine Below.setCell ?_ ?_ _); rotate_left; focus (first | omega | (simp; done) | (simp; omega))) | ((with_reducible refine Below.alloc ?_ ?_ _); rotate_left; focus (first | omega | (simp; done) | (simp; omega))) | (with_reducible refine Below.drew ?_) | (with_reducible refine below_drewN ?_ _) | (refine Below.trans ?_ (Below.mono (by with_reducible assumption) (by (first | omega | (simp; done) | (simp; omega))))))))); rintro e wA ⟨now, rfl, hcA, hdA⟩; have hOg : Out (fun q => q = g) w5 wA := (Out.trans (Out.of_below (by (repeat (first | (with_reducible exact Below.refl _ _) | (with_reducible assumption) | ((with_reducible refine Below.setCell ?_ ?_ _); rotate_left; focus (first | omega | (simp; done) | (simp; omega))) | ((with_reducible refine Below.alloc ?_ ?_ _); rotate_left; focus (first | omega | (simp; done) | (simp; omega))) | (with_reducible refine Below.drew ?_) | (with_reducible refine below_drewN ?_ _) | (refine Below.trans ?_ (Below.mono (by with_reducible assumption) (by (first | omega | (simp; done) | (simp; omega))))))))) hdA); have BA5 := B5.out hOg (by omega); have BA2 := B25.out hOg (by omega); have hcA5 := BA5.cell; have hcA2 := BA2.cell; have hfA2 := BA2.frozen))
  all_goals
    have hFA := (hF5.out hOg (fun q hq => by omega)).out (out_set wA b2 0 (.slice A N c)) (fun q hq => by omega)
    have hsA := hOg.size
    go_wp2_with fail
    refine bodyPost_ret (v := .tuple #[.agg #[.slice A N c], .int .i64 now]) (by simp [results, Try.results37, go_sem, hcA2, hfA2]) rfl ⟨A, N, c, ds, now, rfl, hFA.weak (fun q hq => Or.inl (by have : q < w.heap.size := hq; omega)), ?_⟩
    exact (hbw5.trans (hOg.below (B := w.heap.size) (by have := hbw5.size; omega) (fun q hq => by omega))).setCell (by simp; omega) _
set_option maxHeartbeats 1600000 in
theorem spec_DrawBelow (A0 : Option Addr) (c0 : Nat) (code : List UInt8) (w : World) (hr : Reads w w.heap.size A0 (code.map byteV)) (hm : code.length ≤ 1048576) :
    Calls Try.prog 12 #[.slice A0 code.length c0] w fun e w' => ∃ (A : Option Addr) (N c : Nat) (ds : List TokD) (id : Int), e = .returned (.tuple #[.agg #[.slice A N c], .int .i64 id]) ∧ FDr w' (Low w.heap.size) A N c ds ∧ Below w.heap.size w w' := by
  have HN := Lib.hid (fun (w' : World) (hb : Below w.heap.size w w') => spec_DrawFindToken A0 c0 code w' (hr.keep hb hb.size) hm)
  generalize code.length = n at *
  clear hr
  go_enter Try.func12, Try.ntmps12
  go_wp2_with fail
  have hb0 : Below w.heap.size w (w.alloc (.cells #[.slice none 0 0] 26)) := by (repeat (first | (with_reducible exact Below.refl _ _) | (with_reducible assumption) | ((with_reducible refine Below.setCell ?_ ?_ _); rotate_left; focus (first | omega | (simp; done) | (simp; omega))) | ((with_reducible refine Below.alloc ?_ ?_ _); rotate_left; focus (first | omega | (simp; done) | (simp; omega))) | (with_reducible refine Below.drew ?_) | (with_reducible refine below_drewN ?_ _) | (refine Below.trans ?_ (Below.mono (by with_reducible assumption) (by (first | omega | (simp; done) | (simp; omega)))))))
  have B2 : Blk (w.alloc (.cells #[.slice none 0 0] 26)) w.heap.size 26 #[.slice none 0 0] := Blk.new' rfl
  have hs0 : w.heap.size + 1 = (w.alloc (.cells #[.slice none 0 0] 26)).heap.size := by simp
  generalize (w.alloc (.cells #[.slice none 0 0] 26)) = wa at *
  refine (HN.out _ hb0).mono ?_
  rintro e w1 ⟨A, N, c, ds, id, rfl, hF, hb1⟩
  have hl2 : w.heap.size < wa.heap.size := by omega
  replace B2 := B2.keep hb1
  replace hb1 := hb0.trans (hb1.mono (by omega))
  have hc2 := B2.cell; have hf2 := B2.frozen
  have hFA := (hF.weak (X' := Low wa.heap.size) (fun q hq => Or.inl hq)).out (out_set w1 w.heap.size 0 (.slice A N c)) (fun q hq => by show q < wa.heap.size; omega)
  have HFA := Lib.hid hFA
  clear hF hFA hs0
  go_wp2_with fail
  refine bodyPost_ret (v := .tuple #[.agg #[.slice A N c], .int .i64 id]) (by simp [results, Try.results12, go_sem, hc2, hf2]) rfl ⟨A, N, c, ds, id, rfl, HFA.out.weak (fun q hq => Or.inl (by have : q < w.heap.size := hq; show q < wa.heap.size; omega)), hb1.setCell (by simp) _⟩
end Go.Proofs.Ytcfhnhhgnophhaa
namespace Go.Proofs.Ytcfhnhhgnophhaa
open Go.RowKit
variable {B : Nat}
set_option maxHeartbeats 3200000 in
theorem spec_DrawMakeToken (A0 : Option Addr) (c0 : Nat) (code : List UInt8) (w : World) (hr : Reads w w.heap.size A0 (code.map byteV)) (hm : code.length ≤ 1048576) :
    Calls Try.prog 19 #[.slice A0 code.length c0] w fun e w' => ∃ (A : Option Addr) (N c : Nat) (ds : List TokD) (d : TokD), e = .returned (.tuple #[.agg #[.slice A N c], .agg #[.int .i64 d.t.Id, .int .i64 d.t.Parent, .slice d.A d.t.Names.length d.c, .int .i64 d.t.Made, .int .i64 d.t.Ends, .int .i64 d.t.Limit, .int .i64 d.t.Uses]]) ∧ FDr w' (Low w.heap.size) A N c ds ∧ TIn w' (Low w.heap.size) 8 d ∧ Below w.heap.size w w' := by
  have HN := Lib.hid (fun (w' : World) (hb : Below w.heap.size w w') => spec_l08DrawOne (B := w.heap.size) A0 c0 code w' (hr.below hb (Nat.le_refl _)) hb.size hm)
  generalize code.length = n at *
  clear hr
  go_enter Try.func19, Try.ntmps19
  go_wp2_with fail
  have hb0 : Below w.heap.size w ((w.alloc (.cells #[.slice none 0 0] 26)).alloc (.cells #[.int .i64 0, .int .i64 0, .slice none 0 0, .int .i64 0, .int .i64 0, .int .i64 0, .int .i64 0] 35)) := by (repeat (first | (with_reducible exact Below.refl _ _) | (with_reducible assumption) | ((with_reducible refine Below.setCell ?_ ?_ _); rotate_left; focus (first | omega | (simp; done) | (simp; omega))) | ((with_reducible refine Below.alloc ?_ ?_ _); rotate_left; focus (first | omega | (simp; done) | (simp; omega))) | (with_reducible refine Below.drew ?_) | (with_reducible refine below_drewN ?_ _) | (refine Below.trans ?_ (Below.mono (by with_reducible assumption) (by (first | omega | (simp; done) | (simp; omega)))))))
  have B2 : Blk ((w.alloc (.cells #[.slice none 0 0] 26)).alloc (.cells #[.int .i64 0, .int .i64 0, .slice none 0 0, .int .i64 0, .int .i64 0, .int .i64 0, .int .i64 0] 35)) w.heap.size 26 #[.slice none 0 0] := (Blk.new' rfl).alloc _
  have B3 : Blk ((w.alloc (.cells #[.slice none 0 0] 26)).alloc (.cells #[.int .i64 0, .int .i64 0, .slice none 0 0, .int .i64 0, .int .i64 0, .int .i64 0, .int .i64 0] 35)) (w.heap.size + 1) 35 #[.int .i64 0, .int .i64 0, .slice none 0 0, .int .i64 0, .int .i64 0, .int .i64 0, .int .i64 0] := Blk.new' (by simp)
  have hs0 : w.heap.size + 2 = ((w.alloc (.cells #[.slice none 0 0] 26)).alloc (.cells #[.int .i64 0, .int .i64 0, .slice none 0 0, .int .i64 0, .int .i64 0, .int .i64 0, .int .i64 0] 35)).heap.size := by simp
  generalize ((w.alloc (.cells #[.slice none 0 0] 26)).alloc (.cells #[.int .i64 0, .int .i64 0, .slice none 0 0, .int .i64 0, .int .i64 0, .int .i64 0, .int .i64 0] 35)) = wa at *
  refine (HN.out _ hb0).mono ?_
  rintro e w1 ⟨g, A, N, c, ds, rfl, hc1, hg1, hF, hb1⟩
  have hgl := hc1.lt
  have hBg := hc1.le
  replace B2 := B2.keep hb1; replace B3 := B3.keep hb1
  replace hb1 := hb0.trans (hb1.mono (by omega))
  have hb5 : Below w1.heap.size w1 (w1.alloc (.cells #[.slice A N c] 26)) := by (repeat (first | (with_reducible exact Below.refl _ _) | (with_reducible assumption) | ((with_reducible refine Below.setCell ?_ ?_ _); rotate_left; focus (first | omega | (simp; done) | (simp; omega))) | ((with_reducible refine Below.alloc ?_ ?_ _); rotate_left; focus (first | omega | (simp; done) | (simp; omega))) | (with_reducible refine Below.drew ?_) | (with_reducible refine below_drewN ?_ _) | (refine Below.trans ?_ (Below.mono (by with_reducible assumption) (by (first | omega | (simp; done) | (simp; omega)))))))
  have B5 : Blk (w1.alloc (.cells #[.slice A N c] 26)) w1.heap.size 26 #[.slice A N c] := Blk.new' rfl
  have B25 := B2.keep hb5; have B35 := B3.keep hb5
  have hc5c := hc1.below hb5
  have hF5 := hF.keep hb5
  have HsB : Hid (w1.heap.size + 1 = (w1.alloc (.cells #[.slice A N c] 26)).heap.size) := Lib.hid (by simp)
  have hc5 := B5.cell
  go_upto_region 2 with fail
  generalize (w1.alloc (.cells #[.slice A N c] 26)) = w5 at *
  have hsB := HsB.out
  obtain ⟨b5, hb5e⟩ : ∃ b5, b5 = w1.heap.size := ⟨_, rfl⟩
  obtain ⟨b3, hb3e⟩ : ∃ b3, b3 = w.heap.size + 1 := ⟨_, rfl⟩
  obtain ⟨b2, hb2e⟩ : ∃ b2, b2 = w.heap.size := ⟨_, rfl⟩
  rw [← hb5e] at B5 hc5 ⊢
  rw [← hb3e] at B35 ⊢
  rw [← hb2e] at B25 ⊢
  have hg5 : g < b5 := by omega
  have h55 : b5 < w5.heap.size := by omega
  have h2g : b3 < g := by omega
  have h23 : b2 < b3 := by omega
  have hwb2 : w.heap.size ≤ b2 := by omega
  have hbw5 := hb1.trans (hb5.mono hb1.size)
  clear hb5e hb3e hb2e hsB HsB hb5 hs0 hb0 hF hc1 B2 B3
  have HF := Lib.hid hF5
  have hNf := hF5.few
  clear hF5
  go_wp2_with fail
  refine (spec_l08DrawToken 7 g A N c ds w5 hc5c (HF.out.row.weak (fun q hq => Or.inl (Nat.le_of_eq hq))) HF.out.len hNf (fun d hd => (HF.out.tok d hd).weak (fun q hq => Or.inl (Nat.le_of_eq hq)) (Nat.le_refl _)) (by omega) (by omega)).mono ?_
  rintro e w6 ⟨d, rfl, hT6, hc6, hO6⟩
  have hs6 := hO6.size
  replace B25 := B25.out hO6 (by omega); replace B35 := B35.out hO6 (by omega); replace B5 := B5.out hO6 (by omega)
  have hb7 : Below w6.heap.size w6 (w6.alloc (.cells #[.int .i64 d.t.Id, .int .i64 d.t.Parent, .slice d.A d.t.Names.length d.c, .int .i64 d.t.Made, .int .i64 d.t.Ends, .int .i64 d.t.Limit, .int .i64 d.t.Uses] 35)) := by (repeat (first | (with_reducible exact Below.refl _ _) | (with_reducible assumption) | ((with_reducible refine Below.setCell ?_ ?_ _); rotate_left; focus (first | omega | (simp; done) | (simp; omega))) | ((with_reducible refine Below.alloc ?_ ?_ _); rotate_left; focus (first | omega | (simp; done) | (simp; omega))) | (with_reducible refine Below.drew ?_) | (with_reducible refine below_drewN ?_ _) | (refine Below.trans ?_ (Below.mono (by with_reducible assumption) (by (first | omega | (simp; done) | (simp; omega)))))))
  have B7 : Blk (w6.alloc (.cells #[.int .i64 d.t.Id, .int .i64 d.t.Parent, .slice d.A d.t.Names.length d.c, .int .i64 d.t.Made, .int .i64 d.t.Ends, .int .i64 d.t.Limit, .int .i64 d.t.Uses] 35)) w6.heap.size 35 #[.int .i64 d.t.Id, .int .i64 d.t.Parent, .slice d.A d.t.Names.length d.c, .int .i64 d.t.Made, .int .i64 d.t.Ends, .int .i64 d.t.Limit, .int .i64 d.t.Uses] := Blk.new' rfl
  have B27 := B25.keep hb7; have B37 := B35.keep hb7; have B57 := B5.keep hb7
  have hc7 := hc6.below hb7
  have HT7 := Lib.hid ((hT6.weak (X' := fun q => q < w5.heap.size ∨ q = w6.heap.size) (fun q hq => by rcases hq with h | h; exact Or.inl h; right; omega) (Nat.le_refl _)).keep hb7)
  have HF7 := Lib.hid (((HF.out.weak (X' := fun q => q ≤ g ∨ w5.heap.size ≤ q) (fun q hq => hq)).out hO6 (fun q hq => Or.inl (by omega))).keep hb7)
  have hOw := hbw5.trans ((hO6.below (B := w.heap.size) (by have := hbw5.size; omega) (fun q hq => by omega)))
  have hbw7 := hOw.trans (hb7.mono hOw.size)
  have HsC : Hid (w6.heap.size + 1 = (w6.alloc (.cells #[.int .i64 d.t.Id, .int .i64 d.t.Parent, .slice d.A d.t.Names.length d.c, .int .i64 d.t.Made, .int .i64 d.t.Ends, .int .i64 d.t.Limit, .int .i64 d.t.Uses] 35)).heap.size) := Lib.hid (by simp)
  clear hT6 hc6 B25 B35 B5 hc5 hc5c HF hO6 hOw
  go_upto_region 3 with fail
  generalize (w6.alloc (.cells #[.int .i64 d.t.Id, .int .i64 d.t.Parent, .slice d.A d.t.Names.length d.c, .int .i64 d.t.Made, .int .i64 d.t.Ends, .int .i64 d.t.Limit, .int .i64 d.t.Uses] 35)) = w7 at *
  have hsC := HsC.out
  obtain ⟨b6, hb6e⟩ : ∃ b6, b6 = w6.heap.size := ⟨_, rfl⟩
  rw [← hb6e] at B7 HT7 ⊢
  have h66 : b6 < w7.heap.size := by omega
  have h56 : w5.heap.size ≤ b6 := by omega
  clear hb6e hsC HsC hb7 hs6
  go_wp2_with fail
  refine (spec_l01Once g 4 _ hc7 (by omega)).mono ?_
  rintro e w8 ⟨bb, rfl, hd8⟩
  have hs8 := hd8.size
  have B28 := B27.out hd8.2 (by omega); have B38 := B37.out hd8.2 (by omega); have B58 := B57.out hd8.2 (by omega); have B78 := B7.out hd8.2 (by omega)
  have HT8 := Lib.hid (HT7.out.out hd8.2 (fun q hq => Or.inl (by omega)))
  have HF8 := Lib.hid (HF7.out.out hd8.2 (fun q hq => Or.inl (by omega)))
  have hbw8 := hbw7.trans (hd8.2.below (B := w.heap.size) (by have := hbw7.size; omega) (fun q hq => by omega))
  have hc8 := hd8.1
  clear hd8 HT7 HF7 B27 B37 B57 B7 hbw7 hc7
  go_upto_if 16 with fail
  go_cut [] (fun wx => ∃ d' : TokD, Blk wx b6 35 #[.int .i64 d'.t.Id, .int .i64 d'.t.Parent, .slice d'.A d'.t.Names.length d'.c, .int .i64 d'.t.Made, .int .i64 d'.t.Ends, .int .i64 d'.t.Limit, .int .i64 d'.t.Uses] ∧ TIn wx (fun q => q < w5.heap.size ∨ q = b6) 8 d' ∧ Out (fun q => q = g ∨ q = b6) w8 wx)
  case first =>
    cases bb
    · go_wp2_with fail
      go_meet
      exact ⟨d, B78, HT8.out.weak (fun q hq => Or.inl hq) (by omega), Out.refl _ _⟩
    · have hc6 := B78.cell; have hf6 := B78.frozen
      go_wp2_with fail
      refine (spec_l08BendToken 7 g d (fun q => q < w5.heap.size ∨ q = b6) w8 hc8 HT8.out (Or.inl (by omega)) (fun q hq => by omega) (by omega)).mono ?_
      rintro e w9 ⟨d', rfl, hT9, hc9, hO9⟩
      have B79 := B78.out hO9 (by omega)
      clear hc6 hf6
      have hc6 := B79.cell; have hf6 := B79.frozen
      go_wp2_with fail
      go_meet
      have hO7 : Out (fun q => q = b6) w9 (World.setCell (World.setCell (World.setCell (World.setCell (World.setCell (World.setCell (World.setCell w9 ⟨b6, 0, none⟩ (.int .i64 d'.t.Id)) ⟨b6, 1, none⟩ (.int .i64 d'.t.Parent)) ⟨b6, 2, none⟩ (.slice d'.A d'.t.Names.length d'.c)) ⟨b6, 3, none⟩ (.int .i64 d'.t.Made)) ⟨b6, 4, none⟩ (.int .i64 d'.t.Ends)) ⟨b6, 5, none⟩ (.int .i64 d'.t.Limit)) ⟨b6, 6, none⟩ (.int .i64 d'.t.Uses)) := (Out.trans (Out.trans (Out.trans (Out.trans (Out.trans (Out.trans (out_set _ _ _ _) (out_set _ _ _ _)) (out_set _ _ _ _)) (out_set _ _ _ _)) (out_set _ _ _ _)) (out_set _ _ _ _)) (out_set _ _ _ _))
      exact ⟨d', (Blk.set_ (Blk.set_ (Blk.set_ (Blk.set_ (Blk.set_ (Blk.set_ (Blk.set_ B79 0 _) 1 _) 2 _) 3 _) 4 _) 5 _) 6 _), hT9.out hO7 (fun q hq => Or.inr hq), (hO9.sub (fun q hq => Or.inl hq)).trans (hO7.sub (fun q hq => Or.inr hq))⟩
  case rest =>
    obtain ⟨d', B6x, hTx, hOx⟩ := hcut
    obtain ⟨wz, hwz⟩ : ∃ w_, w_ = wc := ⟨_, rfl⟩
    subst hwz
    have B2x := B28.out hOx (by omega); have B3x := B38.out hOx (by omega); have B5x := B58.out hOx (by omega)
    have HFx := Lib.hid (HF8.out.out hOx (fun q hq => by rcases hq with h | h; left; omega; right; omega))
    have hbwx := hbw8.trans (hOx.below (B := w.heap.size) (by have := hbw8.size; omega) (fun q hq => by omega))
    have hc2 := B2x.cell; have hf2 := B2x.frozen; have hc3 := B3x.cell; have hf3 := B3x.frozen; have hc5 := B5x.cell; have hc6 := B6x.cell
    have hzx := hOx.size
    have HTx := Lib.hid hTx
    clear hTx
    go_wp2_with fail
    go_region_law (fail)
    all_goals
      go_wp2_with fail
      have hO8 : Out (fun q => q = b2 ∨ q = b3) wz ((World.setCell (World.setCell (World.setCell (World.setCell (World.setCell (World.setCell (World.setCell (World.setCell wz ⟨b2, 0, none⟩ (.slice A N c)) ⟨b3, 0, none⟩ (.int .i64 d'.t.Id)) ⟨b3, 1, none⟩ (.int .i64 d'.t.Parent)) ⟨b3, 2, none⟩ (.slice d'.A d'.t.Names.length d'.c)) ⟨b3, 3, none⟩ (.int .i64 d'.t.Made)) ⟨b3, 4, none⟩ (.int .i64 d'.t.Ends)) ⟨b3, 5, none⟩ (.int .i64 d'.t.Limit)) ⟨b3, 6, none⟩ (.int .i64 d'.t.Uses))).drew := ((Out.trans (Out.trans (Out.trans (Out.trans (Out.trans (Out.trans (Out.trans (Out.sub (out_set _ _ _ _) (fun q hq => by omega)) (Out.sub (out_set _ _ _ _) (fun q hq => by omega))) (Out.sub (out_set _ _ _ _) (fun q hq => by omega))) (Out.sub (out_set _ _ _ _) (fun q hq => by omega))) (Out.sub (out_set _ _ _ _) (fun q hq => by omega))) (Out.sub (out_set _ _ _ _) (fun q hq => by omega))) (Out.sub (out_set _ _ _ _) (fun q hq => by omega))) (Out.sub (out_set _ _ _ _) (fun q hq => by omega)))).drew
      have Y2 : Blk ((World.setCell (World.setCell (World.setCell (World.setCell (World.setCell (World.setCell (World.setCell (World.setCell wz ⟨b2, 0, none⟩ (.slice A N c)) ⟨b3, 0, none⟩ (.int .i64 d'.t.Id)) ⟨b3, 1, none⟩ (.int .i64 d'.t.Parent)) ⟨b3, 2, none⟩ (.slice d'.A d'.t.Names.length d'.c)) ⟨b3, 3, none⟩ (.int .i64 d'.t.Made)) ⟨b3, 4, none⟩ (.int .i64 d'.t.Ends)) ⟨b3, 5, none⟩ (.int .i64 d'.t.Limit)) ⟨b3, 6, none⟩ (.int .i64 d'.t.Uses))).drew b2 26 #[.slice A N c] := ((Blk.far (Blk.far (Blk.far (Blk.far (Blk.far (Blk.far (Blk.far (B2x.set_ 0 (.slice A N c)) (p := ⟨b3, 0, none⟩) (by simp; omega) (.int .i64 d'.t.Id)) (p := ⟨b3, 1, none⟩) (by simp; omega) (.int .i64 d'.t.Parent)) (p := ⟨b3, 2, none⟩) (by simp; omega) (.slice d'.A d'.t.Names.length d'.c)) (p := ⟨b3, 3, none⟩) (by simp; omega) (.int .i64 d'.t.Made)) (p := ⟨b3, 4, none⟩) (by simp; omega) (.int .i64 d'.t.Ends)) (p := ⟨b3, 5, none⟩) (by simp; omega) (.int .i64 d'.t.Limit)) (p := ⟨b3, 6, none⟩) (by simp; omega) (.int .i64 d'.t.Uses))).drew
      have Y3 : Blk ((World.setCell (World.setCell (World.setCell (World.setCell (World.setCell (World.setCell (World.setCell (World.setCell wz ⟨b2, 0, none⟩ (.slice A N c)) ⟨b3, 0, none⟩ (.int .i64 d'.t.Id)) ⟨b3, 1, none⟩ (.int .i64 d'.t.Parent)) ⟨b3, 2, none⟩ (.slice d'.A d'.t.Names.length d'.c)) ⟨b3, 3, none⟩ (.int .i64 d'.t.Made)) ⟨b3, 4, none⟩ (.int .i64 d'.t.Ends)) ⟨b3, 5, none⟩ (.int .i64 d'.t.Limit)) ⟨b3, 6, none⟩ (.int .i64 d'.t.Uses))).drew b3 35 #[.int .i64 d'.t.Id, .int .i64 d'.t.Parent, .slice d'.A d'.t.Names.length d'.c, .int .i64 d'.t.Made, .int .i64 d'.t.Ends, .int .i64 d'.t.Limit, .int .i64 d'.t.Uses] := (Blk.set_ (Blk.set_ (Blk.set_ (Blk.set_ (Blk.set_ (Blk.set_ (Blk.set_ (B3x.far (p := ⟨b2, 0, none⟩) (by simp; omega) _) 0 _) 1 _) 2 _) 3 _) 4 _) 5 _) 6 _).drew
      generalize ((World.setCell (World.setCell (World.setCell (World.setCell (World.setCell (World.setCell (World.setCell (World.setCell wz ⟨b2, 0, none⟩ (.slice A N c)) ⟨b3, 0, none⟩ (.int .i64 d'.t.Id)) ⟨b3, 1, none⟩ (.int .i64 d'.t.Parent)) ⟨b3, 2, none⟩ (.slice d'.A d'.t.Names.length d'.c)) ⟨b3, 3, none⟩ (.int .i64 d'.t.Made)) ⟨b3, 4, none⟩ (.int .i64 d'.t.Ends)) ⟨b3, 5, none⟩ (.int .i64 d'.t.Limit)) ⟨b3, 6, none⟩ (.int .i64 d'.t.Uses))).drew = wy at *
      clear hc2 hf2 hc3 hf3 hc5 hc6
      have hc2 := Y2.cell; have hf2 := Y2.frozen; have hc3 := Y3.cell; have hf3 := Y3.frozen
      refine bodyPost_ret (v := .tuple #[.agg #[.slice A N c], .agg #[.int .i64 d'.t.Id, .int .i64 d'.t.Parent, .slice d'.A d'.t.Names.length d'.c, .int .i64 d'.t.Made, .int .i64 d'.t.Ends, .int .i64 d'.t.Limit, .int .i64 d'.t.Uses]]) (by simp [results, Try.results19, go_sem, hc2, hf2, hc3, hf3]) rfl ⟨A, N, c, ds, d', rfl, ?_, ?_, ?_⟩
      · exact (HFx.out.out hO8 (fun q hq => by rcases hq with h | h; left; omega; left; omega)).weak (fun q hq => Or.inl (Or.inl (by have : q < w.heap.size := hq; omega)))
      · exact (HTx.out.out hO8 (fun q hq => by rcases hq with h | h; left; omega; left; omega)).weak (fun q hq => Or.inl (Or.inl (by have : q < w.heap.size := hq; omega))) (Nat.le_refl _)
      · exact hbwx.trans (hO8.below (B := w.heap.size) (by have := hbwx.size; omega) (fun q hq => by omega))
end Go.Proofs.Ytcfhnhhgnophhaa
namespace Go.Proofs.Ytcfhnhhgnophhaa
open Go.RowKit
set_option maxHeartbeats 800000 in
theorem laws_sameTexts (A A' : Option Addr) (c c' n : Nat) (xs : List ByteArray) (w : World) (hr : Reads w w.heap.size A (xs.map strV)) (hr' : Reads w w.heap.size A' (xs.map strV)) (hn : xs.length = n) (hm : n ≤ 1073741824) :
    Calls Try.prog 23 #[.slice A n c, .slice A' n c'] w fun e w' => e = .returned (.bool true) ∧ Below w.heap.size w w' := by
  have Hn := Lib.hid hn
  clear hn
  go_enter Try.func23, Try.ntmps23
  go_wp2
  go_loopw [5] (fun i wr => ∃ k : Nat, k ≤ n ∧ i = .int .i64 k ∧ Below w.heap.size w wr) (fun i _ => n - (intOf i).toNat)
  case atStart => exact ⟨0, Nat.zero_le _, rfl, by (repeat (first | (with_reducible exact Below.refl _ _) | (with_reducible assumption) | ((with_reducible refine Below.setCell ?_ ?_ _); rotate_left; focus (first | omega | (simp; done) | (simp; omega))) | ((with_reducible refine Below.alloc ?_ ?_ _); rotate_left; focus (first | omega | (simp; done) | (simp; omega))) | (with_reducible refine Below.drew ?_) | (with_reducible refine below_drewN ?_ _) | (refine Below.trans ?_ (Below.mono (by with_reducible assumption) (by (first | omega | (simp; done) | (simp; omega)))))))⟩
  case round =>
    obtain ⟨k, hk, rfl, hb⟩ := hrel
    by_cases hlt : k < n
    · have hlx : k < (xs.map strV).length := by simpa [Hn.out] using hlt
      obtain ⟨b, off, rfl, hab, hc1⟩ := hr.at_ hlx hb (Nat.le_refl _)
      obtain ⟨b', off', rfl, hab', hc2⟩ := hr'.at_ hlx hb (Nat.le_refl _)
      rw [List.getElem_map] at hc1 hc2
      generalize xs[k]'(by simpa using hlx) = u at hc1 hc2
      clear hlx
      simp only [strV] at hc1 hc2
      have he : (u.toList == u.toList) = true := by simp
      have q1 := later_cell hc1
      have q2 := later_cell hc2
      go_wp2_with fail
      refine wp_region_later (by kernel_rfl) (by kernel_rfl) ?_
      repeat (first | go_big_quiet_step (fail) | quiet_step (fail))
      refine wpQuiet_nil ?_
      intro w3 hb3
      have hzr := hb.size
      go_wp2
      go_roundw
      case rel => exact ⟨k + 1, by omega, by go_num, hb.trans (hb3.mono hzr)⟩
      case measure => simp [intOf]; omega
    · go_wp2
      go_ret
      exact ⟨rfl, hb⟩
end Go.Proofs.Ytcfhnhhgnophhaa

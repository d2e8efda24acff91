/- What DrawRenewLease of the reference draws. -/
import Derived.Test.YtohfnpohmieknaaDoorDrawBook
set_option linter.unusedSimpArgs false
set_option linter.unusedVariables false
set_option maxRecDepth 20000
namespace Go.Proofs.YtohfnpohmieknaaDoor
open Go.RowKit
variable {B : Nat}
structure LDr (w : World) (X : Nat → Prop) (A : Option Addr) (N c : Nat) (ls : List Lease) : Prop where
  len : ls.length = N
  few : N ≤ 151
  cap : N ≤ c
  max : c ≤ 9223372036854775807
  row : RdIn w X A (ls.flatMap Lease.cells)
  tok : ∀ l ∈ ls, l.Path.size ≤ 200
theorem LDr.out {w w' : World} {X T : Nat → Prop} {A : Option Addr} {N c : Nat} {ls : List Lease} (h : LDr w X A N c ls) (ho : Out T w w') (hT : ∀ g, T g → X g) : LDr w' X A N c ls := ⟨h.len, h.few, h.cap, h.max, h.row.out ho hT, h.tok⟩
theorem LDr.keep {w w' : World} {X : Nat → Prop} {A : Option Addr} {N c : Nat} {ls : List Lease} (h : LDr w X A N c ls) (hb : Below w.heap.size w w') : LDr w' X A N c ls := ⟨h.len, h.few, h.cap, h.max, h.row.keep hb, h.tok⟩
theorem LDr.weak {w : World} {X X' : Nat → Prop} {A : Option Addr} {N c : Nat} {ls : List Lease} (h : LDr w X A N c ls) (hX : ∀ b, X' b → X b ∨ w.heap.size ≤ b) : LDr w X' A N c ls := ⟨h.len, h.few, h.cap, h.max, h.row.weak hX, h.tok⟩
theorem lrow {w : World} {X : Nat → Prop} {b off k : Nat} {ls : List Lease} {l : Lease} (h : RdIn w X (some ⟨b, off, none⟩) (ls.flatMap Lease.cells)) (hl : ls[k]? = some l) : w.cell? ⟨b, off + k * 6, none⟩ = some (.int .i64 l.Id) := by
  obtain ⟨hk, rfl⟩ := List.getElem?_eq_some_iff.1 hl
  obtain ⟨b', off', e, -, hc⟩ := h.1 (by rw [lease_flat_len]; omega)
  simp only [Option.some.injEq, Addr.mk.injEq, and_true] at e
  obtain ⟨rfl, rfl⟩ := e
  exact hc _ _ (flat_at Lease.cells 6 Lease.len ls k 0 hk (by omega))
theorem LDr.rd {w : World} {X : Nat → Prop} {A : Option Addr} {N c : Nat} {ls : List Lease} (h : LDr w X A N c ls) : SlRd LeaseR w w.heap.size (.slice A N c) ls := by
  have hl := h.len
  subst hl
  exact SlRd.of_reads (by omega) h.row.1 h.cap h.max (fun l hl => by have := h.tok l hl; omega)
set_option maxHeartbeats 3200000 in
theorem spec_l09DrawOne (A0 : Option Addr) (c0 : Nat) (code : List UInt8) (w : World) (hr : Reads w B A0 (code.map byteV)) (hB : B ≤ w.heap.size) (hm : code.length ≤ 1048576) :
    Calls Tryd.prog 8 #[.slice A0 code.length c0] w fun e w' => ∃ (g : Nat) (A : Option Addr) (N c : Nat) (ds : List Lease), e = .returned (.tuple #[.pointer (some ⟨g, 0, none⟩), .agg #[.slice A N c]]) ∧ Cur B w' g ∧ w.heap.size ≤ g ∧ LDr w' (fun q => q ≤ g) A N c ds ∧ Below w.heap.size w w' := by
  have HN := Lib.hid (fun (w' : World) (hb : Below w.heap.size w w') => spec_l01New (B := B) A0 c0 code w' (hr.below hb hB) (Nat.le_trans hB hb.size) hm)
  generalize code.length = n at *
  clear hr
  go_enter Tryd.func8, Tryd.ntmps8
  go_wp2_with fail
  have hb0 : Below w.heap.size w (w.alloc (.cells #[.slice none 0 0] 26)) := by (repeat (first | (with_reducible exact Below.refl _ _) | (with_reducible assumption) | ((with_reducible refine Below.setCell ?_ ?_ _); rotate_left; focus (first | omega | (simp; done) | (simp; omega))) | ((with_reducible refine Below.alloc ?_ ?_ _); rotate_left; focus (first | omega | (simp; done) | (simp; omega))) | (with_reducible refine Below.drew ?_) | (with_reducible refine below_drewN ?_ _) | (refine Below.trans ?_ (Below.mono (by with_reducible assumption) (by (first | omega | (simp; done) | (simp; omega)))))))
  have B0 : Blk (w.alloc (.cells #[.slice none 0 0] 26)) w.heap.size 26 #[.slice none 0 0] := Blk.new' rfl
  have hs0 : w.heap.size + 1 = (w.alloc (.cells #[.slice none 0 0] 26)).heap.size := by simp
  generalize (w.alloc (.cells #[.slice none 0 0] 26)) = wa at *
  refine (HN.out _ hb0).mono ?_
  rintro e w1 ⟨rfl, hc1, hb1⟩
  obtain ⟨g, hg⟩ : ∃ g, g = wa.heap.size := ⟨_, rfl⟩
  rw [← hg] at hc1 ⊢
  have hgl := hc1.lt
  have hBg := hc1.le
  have hgw : w.heap.size < g := by omega
  replace B0 := B0.keep hb1
  replace hb1 := hb0.trans (hb1.mono (by omega))
  clear hg hs0
  go_wp2_with fail
  refine (spec_l01Size A0 n c0 16 _ hm (by omega) (by omega)).mono ?_
  rintro e w' ⟨m, rfl, hm0, hm1, rfl⟩
  go_wp2_with fail
  refine (spec_l01Below g m _ hc1 (by omega)).mono ?_
  rintro e w2 ⟨x, rfl, hx0, hx1, -, hd2⟩
  have hx := hx1 (by omega)
  have hs2 := hd2.size
  replace B0 := B0.out hd2.2 (by omega)
  go_wp2_with fail
  refine (spec_l01Once g 40 _ hd2.1 (by omega)).mono ?_
  rintro e w3 ⟨b, rfl, hd3⟩
  have hs3 := hd3.size
  replace B0 := B0.out hd3.2 (by omega)
  have hO3 := hd2.2.trans hd3.2
  cases b
  · obtain ⟨N, rfl⟩ : ∃ N : Nat, x = N := ⟨x.toNat, by omega⟩
    go_wp2_with fail
    refine (spec_l09DrawBook g N _ hd3.1 (by omega)).mono ?_
    rintro e w5 ⟨Av, cv, ds, rfl, hdl, hrow, hcap, hmax, hall, hc5, hO5⟩
    have hs5 := hO5.size
    replace B0 := B0.out hO5 (by omega)
    have hc0 := B0.cell; have hf0 := B0.frozen
    have hb5 := hb1.trans ((hO3.trans hO5).below (B := w.heap.size) (by omega) (fun q hq => by omega))
    have hF : LDr w5 (fun q => q ≤ g) Av N cv ds := ⟨hdl, by omega, hcap, hmax, hrow.weak (fun q hq => Or.inl (show q < w3.heap.size by have : q ≤ g := hq; omega)), hall⟩
    have HF := Lib.hid hF
    clear hF hdl hrow hcap hmax hall
    go_wp2_with fail
    refine bodyPost_ret (v := .tuple #[.pointer (some ⟨g, 0, none⟩), .agg #[.slice Av N cv]]) (by simp [results, Tryd.results8, go_sem, hc0, hf0]) rfl ⟨g, Av, N, cv, ds, rfl, hc5.out (out_set _ _ _ _) (fun q hq => by omega), by omega, HF.out.out (out_set _ _ _ _) (fun q hq => by omega), by (repeat (first | (with_reducible exact Below.refl _ _) | (with_reducible assumption) | ((with_reducible refine Below.setCell ?_ ?_ _); rotate_left; focus (first | omega | (simp; done) | (simp; omega))) | ((with_reducible refine Below.alloc ?_ ?_ _); rotate_left; focus (first | omega | (simp; done) | (simp; omega))) | (with_reducible refine Below.drew ?_) | (with_reducible refine below_drewN ?_ _) | (refine Below.trans ?_ (Below.mono (by with_reducible assumption) (by (first | omega | (simp; done) | (simp; omega)))))))⟩
  · go_wp2_with fail
    refine (spec_l01Below g 3 _ hd3.1 (by omega)).mono ?_
    rintro e w4 ⟨y, rfl, hy0, hy1, -, hd4⟩
    have hy := hy1 (by omega)
    have hs4 := hd4.size
    replace B0 := B0.out hd4.2 (by omega)
    replace hO3 := hO3.trans hd4.2
    obtain ⟨N, hN⟩ : ∃ N : Nat, 149 + y = N := ⟨(149 + y).toNat, by omega⟩
    replace hd3 := hd4
    replace hs3 := Nat.le_trans hs3 hs4
    go_wp2_with fail
    try rw [hN]
    refine (spec_l09DrawBook g N _ hd3.1 (by omega)).mono ?_
    rintro e w5 ⟨Av, cv, ds, rfl, hdl, hrow, hcap, hmax, hall, hc5, hO5⟩
    have hs5 := hO5.size
    replace B0 := B0.out hO5 (by omega)
    have hc0 := B0.cell; have hf0 := B0.frozen
    have hb5 := hb1.trans ((hO3.trans hO5).below (B := w.heap.size) (by omega) (fun q hq => by omega))
    have hF : LDr w5 (fun q => q ≤ g) Av N cv ds := ⟨hdl, by omega, hcap, hmax, hrow.weak (fun q hq => Or.inl (show q < w4.heap.size by have : q ≤ g := hq; omega)), hall⟩
    have HF := Lib.hid hF
    clear hF hdl hrow hcap hmax hall
    go_wp2_with fail
    refine bodyPost_ret (v := .tuple #[.pointer (some ⟨g, 0, none⟩), .agg #[.slice Av N cv]]) (by simp [results, Tryd.results8, go_sem, hc0, hf0]) rfl ⟨g, Av, N, cv, ds, rfl, hc5.out (out_set _ _ _ _) (fun q hq => by omega), by omega, HF.out.out (out_set _ _ _ _) (fun q hq => by omega), by (repeat (first | (with_reducible exact Below.refl _ _) | (with_reducible assumption) | ((with_reducible refine Below.setCell ?_ ?_ _); rotate_left; focus (first | omega | (simp; done) | (simp; omega))) | ((with_reducible refine Below.alloc ?_ ?_ _); rotate_left; focus (first | omega | (simp; done) | (simp; omega))) | (with_reducible refine Below.drew ?_) | (with_reducible refine below_drewN ?_ _) | (refine Below.trans ?_ (Below.mono (by with_reducible assumption) (by (first | omega | (simp; done) | (simp; omega)))))))⟩
set_option maxHeartbeats 3200000 in
theorem spec_l09DrawId (g : Nat) (A : Option Addr) (N c : Nat) (ds : List Lease) (w : World) (hc : Cur B w g) (hF : LDr w (fun q => q ≤ g) A N c ds) :
    Calls Tryd.prog 9 #[.pointer (some ⟨g, 0, none⟩), .agg #[.slice A N c]] w fun e w' => ∃ x : Int, e = .returned (.int .i64 x) ∧ Cur B w' g ∧ Out (fun q => q = g) w w' := by
  have hgl := hc.lt
  have hBg := hc.le
  have HF := Lib.hid hF
  have hN := hF.few
  clear hF
  have hbA : Below w.heap.size w (w.alloc (.cells #[.slice A N c] 26)) := by (repeat (first | (with_reducible exact Below.refl _ _) | (with_reducible assumption) | ((with_reducible refine Below.setCell ?_ ?_ _); rotate_left; focus (first | omega | (simp; done) | (simp; omega))) | ((with_reducible refine Below.alloc ?_ ?_ _); rotate_left; focus (first | omega | (simp; done) | (simp; omega))) | (with_reducible refine Below.drew ?_) | (with_reducible refine below_drewN ?_ _) | (refine Below.trans ?_ (Below.mono (by with_reducible assumption) (by (first | omega | (simp; done) | (simp; omega)))))))
  have B3 : Blk (w.alloc (.cells #[.slice A N c] 26)) w.heap.size 26 #[.slice A N c] := Blk.new' rfl
  have HsA : Hid (w.heap.size + 1 = (w.alloc (.cells #[.slice A N c] 26)).heap.size) := Lib.hid (by simp)
  have hcA := hc.below hbA
  have hFA := Lib.hid (HF.out.keep hbA)
  have hc3 := B3.cell
  go_enter Tryd.func9, Tryd.ntmps9
  go_upto_region 1 with fail
  generalize (w.alloc (.cells #[.slice A N c] 26)) = wa at *
  have hsA := HsA.out
  obtain ⟨b3, hb3⟩ : ∃ b3, b3 = w.heap.size := ⟨_, rfl⟩
  rw [← hb3] at B3 hc3 ⊢
  have hgb : g < b3 := by omega
  have hOA := Out.of_below (S := fun q => q = g) hbA
  clear hb3 HsA hbA HF
  go_cut [13] (fun s13 wx => ∃ b : Bool, s13 = .bool b ∧ (b = true → 0 < N) ∧ Cur B wx g ∧ Out (fun q => q = g) wa wx)
  case first =>
    by_cases h0 : (0 : Int) < (N : Int)
    · go_wp2_with fail
      refine (spec_l01Once g 6 _ hcA (by omega)).mono ?_
      rintro e w7 ⟨bb, rfl, hd7⟩
      go_wp2_with fail
      go_meet
      exact ⟨!bb, by simp, fun _ => by omega, hd7.1, hd7.2⟩
    · go_wp2_with fail
      go_meet
      exact ⟨false, rfl, by simp, hcA, Out.refl _ _⟩
  case rest =>
    obtain ⟨b, rfl, hbN, hcu, hO⟩ := hcut
    obtain ⟨w7, hw7⟩ : ∃ w_, w_ = wc := ⟨_, rfl⟩
    subst hw7
    have B37 := B3.out hO (by omega)
    clear hc3
    cases b
    · go_wp2_with fail
      refine (spec_pickLit g w7 [0, 1, 2, -1, 999] hcu (by simp) (by simp)).mono ?_
      rintro e w8 ⟨v, rfl, -, hc8, hO8, -⟩
      go_wp2
      go_ret
      exact ⟨v, rfl, hc8, (hOA.trans hO).trans hO8⟩
    · have h0 := hbN rfl
      have HF7 := Lib.hid (hFA.out.out hO (fun q hq => by omega))
      obtain ⟨bR, offR, rfl, hbR, -⟩ := HF7.out.row.1 (by rw [lease_flat_len, HF7.out.len]; omega)
      have hc3 := B37.cell
      go_wp2_with fail
      go_region_law (first | (go_simp; go_at_call 10; refine (spec_l01Below g N _ (hcu.below (by (repeat (first | (with_reducible exact Below.refl _ _) | (with_reducible assumption) | ((with_reducible refine Below.setCell ?_ ?_ _); rotate_left; focus (first | omega | (simp; done) | (simp; omega))) | ((with_reducible refine Below.alloc ?_ ?_ _); rotate_left; focus (first | omega | (simp; done) | (simp; omega))) | (with_reducible refine Below.drew ?_) | (with_reducible refine below_drewN ?_ _) | (refine Below.trans ?_ (Below.mono (by with_reducible assumption) (by (first | omega | (simp; done) | (simp; omega))))))))) (by omega)).mono ?_; rintro e wA ⟨y, rfl, hy0, hy1, -, hdA⟩; have hyn := hy1 (by omega); obtain ⟨k, rfl⟩ : ∃ k : Nat, y = k := ⟨y.toNat, by omega⟩; have hOg : Out (fun q => q = g) w7 wA := (Out.trans (Out.of_below (by (repeat (first | (with_reducible exact Below.refl _ _) | (with_reducible assumption) | ((with_reducible refine Below.setCell ?_ ?_ _); rotate_left; focus (first | omega | (simp; done) | (simp; omega))) | ((with_reducible refine Below.alloc ?_ ?_ _); rotate_left; focus (first | omega | (simp; done) | (simp; omega))) | (with_reducible refine Below.drew ?_) | (with_reducible refine below_drewN ?_ _) | (refine Below.trans ?_ (Below.mono (by with_reducible assumption) (by (first | omega | (simp; done) | (simp; omega))))))))) hdA.2); have BA3 := B37.out hOg (by omega); have hcA3 := BA3.cell; have hkl : k < ds.length := (by rw [HF7.out.len]; omega); have r0 := lrow (HF7.out.row.out hOg (fun q hq => by omega)) (List.getElem?_eq_getElem hkl); generalize (ds[k]'hkl).Id = idk at r0; clear hkl))
      all_goals
        go_wp2_with fail
        go_ret
        exact ⟨_, rfl, hdA.1, (hOA.trans hO).trans hOg⟩
set_option maxHeartbeats 12800000 in
theorem spec_DrawRenewLease (A0 : Option Addr) (c0 : Nat) (code : List UInt8) (w : World) (hr : Reads w w.heap.size A0 (code.map byteV)) (hm : code.length ≤ 1048576) :
    Calls Tryd.prog 5 #[.slice A0 code.length c0] w fun e w' => ∃ (A : Option Addr) (N c : Nat) (ls : List Lease) (id now by_ : Int), e = .returned (.tuple #[.agg #[.slice A N c], .int .i64 id, .int .i64 now, .int .i64 by_]) ∧ LDr w' (Low w.heap.size) A N c ls ∧ Below w.heap.size w w' := by
  have HN := Lib.hid (fun (w' : World) (hb : Below w.heap.size w w') => spec_l09DrawOne (B := w.heap.size) A0 c0 code w' (hr.below hb (Nat.le_refl _)) hb.size hm)
  generalize code.length = n at *
  clear hr
  go_enter Tryd.func5, Tryd.ntmps5
  go_wp2_with fail
  have hb0 : Below w.heap.size w (w.alloc (.cells #[.slice none 0 0] 26)) := by (repeat (first | (with_reducible exact Below.refl _ _) | (with_reducible assumption) | ((with_reducible refine Below.setCell ?_ ?_ _); rotate_left; focus (first | omega | (simp; done) | (simp; omega))) | ((with_reducible refine Below.alloc ?_ ?_ _); rotate_left; focus (first | omega | (simp; done) | (simp; omega))) | (with_reducible refine Below.drew ?_) | (with_reducible refine below_drewN ?_ _) | (refine Below.trans ?_ (Below.mono (by with_reducible assumption) (by (first | omega | (simp; done) | (simp; omega)))))))
  have B2 : Blk (w.alloc (.cells #[.slice none 0 0] 26)) w.heap.size 26 #[.slice none 0 0] := Blk.new' rfl
  have hs0 : w.heap.size + 1 = (w.alloc (.cells #[.slice none 0 0] 26)).heap.size := by simp
  generalize (w.alloc (.cells #[.slice none 0 0] 26)) = wa at *
  refine (HN.out _ hb0).mono ?_
  rintro e w1 ⟨g, A, N, c, ls, rfl, hc1, hg1, hF, hb1⟩
  have hgl := hc1.lt
  have hBg := hc1.le
  replace B2 := B2.keep hb1
  replace hb1 := hb0.trans (hb1.mono (by omega))
  have hb5 : Below w1.heap.size w1 (w1.alloc (.cells #[.slice A N c] 26)) := by (repeat (first | (with_reducible exact Below.refl _ _) | (with_reducible assumption) | ((with_reducible refine Below.setCell ?_ ?_ _); rotate_left; focus (first | omega | (simp; done) | (simp; omega))) | ((with_reducible refine Below.alloc ?_ ?_ _); rotate_left; focus (first | omega | (simp; done) | (simp; omega))) | (with_reducible refine Below.drew ?_) | (with_reducible refine below_drewN ?_ _) | (refine Below.trans ?_ (Below.mono (by with_reducible assumption) (by (first | omega | (simp; done) | (simp; omega)))))))
  have B5 : Blk (w1.alloc (.cells #[.slice A N c] 26)) w1.heap.size 26 #[.slice A N c] := Blk.new' rfl
  have B25 := B2.keep hb5
  have hc5c := hc1.below hb5
  have hF5 := hF.keep hb5
  have HsB : Hid (w1.heap.size + 1 = (w1.alloc (.cells #[.slice A N c] 26)).heap.size) := Lib.hid (by simp)
  go_wp2_with fail
  generalize (w1.alloc (.cells #[.slice A N c] 26)) = w5 at *
  have hsB := HsB.out
  obtain ⟨b5, hb5e⟩ : ∃ b5, b5 = w1.heap.size := ⟨_, rfl⟩
  obtain ⟨b2, hb2e⟩ : ∃ b2, b2 = w.heap.size := ⟨_, rfl⟩
  rw [← hb5e] at B5 ⊢
  rw [← hb2e] at B25 ⊢
  have hg5 : g < b5 := by omega
  have h25 : b5 < w5.heap.size := by omega
  have h2g : b2 < g := by omega
  have hwb2 : w.heap.size ≤ b2 := by omega
  have hbw5 := hb1.trans (hb5.mono hb1.size)
  clear hb5e hb2e hsB HsB hb5 hs0 hb0 hF hc1 B2
  have HDI := Lib.hid (fun (w' : World) (hb : Below w5.heap.size w5 w') => spec_l09DrawId g A N c ls w' (hc5c.below hb) (hF5.keep hb))
  have HBl := Lib.hid (fun (n : Int) (w' : World) (hc : Cur w.heap.size w' g) (hn : n ≤ 1073741824) => spec_l01Below g n w' hc hn)
  have hc5 := B5.cell; have hc2 := B25.cell; have hf2 := B25.frozen; have hl2 := B25.lt
  have HF5 := Lib.hid hF5
  clear hF5 hc5c
  go_region_law (first | (go_simp; go_at_call 9; ((with_reducible refine (HDI.out _ ?_).mono ?_); (focus (repeat (first | (with_reducible exact Below.refl _ _) | (with_reducible assumption) | ((with_reducible refine Below.setCell ?_ ?_ _); rotate_left; focus (first | omega | (simp; done) | (simp; omega))) | ((with_reducible refine Below.alloc ?_ ?_ _); rotate_left; focus (first | omega | (simp; done) | (simp; omega))) | (with_reducible refine Below.drew ?_) | (with_reducible refine below_drewN ?_ _) | (refine Below.trans ?_ (Below.mono (by with_reducible assumption) (by (first | omega | (simp; done) | (simp; omega))))))))); rintro e wA ⟨idv, rfl, hCwA, hdA⟩; have hOwA : Out (fun q => q = g) w5 wA := (Out.trans (Out.of_below (by (repeat (first | (with_reducible exact Below.refl _ _) | (with_reducible assumption) | ((with_reducible refine Below.setCell ?_ ?_ _); rotate_left; focus (first | omega | (simp; done) | (simp; omega))) | ((with_reducible refine Below.alloc ?_ ?_ _); rotate_left; focus (first | omega | (simp; done) | (simp; omega))) | (with_reducible refine Below.drew ?_) | (with_reducible refine below_drewN ?_ _) | (refine Below.trans ?_ (Below.mono (by with_reducible assumption) (by (first | omega | (simp; done) | (simp; omega))))))))) hdA); have hO := hOwA; have BA5 := B5.out hO (by omega); have BA2 := B25.out hO (by omega); have hcA5 := BA5.cell; have hcA2 := BA2.cell; have hfA2 := BA2.frozen; have hlA2 := BA2.lt) | (go_simp; go_at_call 10; (with_reducible refine (HBl.out 110 wA hCwA (by omega)).mono ?_); rintro e wB ⟨y, rfl, y0, y1, -, yd⟩; have y2 := y1 (by omega); have hOwB : Out (fun q => q = g) w5 wB := Out.trans hOwA (And.right yd); have hCwB := And.left yd; have hO := hOwB; have BA5 := B5.out hO (by omega); have BA2 := B25.out hO (by omega); have hcA5 := BA5.cell; have hcA2 := BA2.cell; have hfA2 := BA2.frozen; have hlA2 := BA2.lt; have hwy : IntKind.i64.wrap (y - 3) = y - 3 := IntWalk.i64_in _ (by omega)) | (go_simp; go_at_call 10; (with_reducible refine (HBl.out 90 wB hCwB (by omega)).mono ?_); rintro e wC ⟨z, rfl, z0, z1, -, zd⟩; have z2 := z1 (by omega); have hOwC : Out (fun q => q = g) w5 wC := Out.trans hOwB (And.right zd); have hCwC := And.left zd; have hO := hOwC; have BA5 := B5.out hO (by omega); have BA2 := B25.out hO (by omega); have hcA5 := BA5.cell; have hcA2 := BA2.cell; have hfA2 := BA2.frozen; have hlA2 := BA2.lt; have hwz : IntKind.i64.wrap (1 + z) = 1 + z := IntWalk.i64_in _ (by omega)) | (go_simp; go_at_call 10; (with_reducible refine (HBl.out 90 wC hCwC (by omega)).mono ?_); rintro e wD ⟨u, rfl, u0, u1, -, ud⟩; have u2 := u1 (by omega); have hOwD : Out (fun q => q = g) w5 wD := Out.trans hOwC (And.right ud); have hCwD := And.left ud; have hO := hOwD; have BA5 := B5.out hO (by omega); have BA2 := B25.out hO (by omega); have hcA5 := BA5.cell; have hcA2 := BA2.cell; have hfA2 := BA2.frozen; have hlA2 := BA2.lt; have hwu : IntKind.i64.wrap (1 + u) = 1 + u := IntWalk.i64_in _ (by omega); have hcA5a := (BA5.alloc (.cells #[.int .i64 1, .int .i64 (1 + z), .int .i64 (1 + u), .int .i64 0, .int .i64 1000000000, .int .i64 1000000001] 3)).cell) | (go_simp; go_at_call 11; refine (spec_pickLit g wD [1, 1 + z, 1 + u, 0, 1000000000, 1000000001] hCwD (by simp) (by simp)).mono ?_; rintro e wE ⟨byv, rfl, -, hCwE, hdE, hsE⟩; have hOwE : Out (fun q => q = g) w5 wE := Out.trans hOwD hdE; have hO := hOwE; have BA5 := B5.out hO (by omega); have BA2 := B25.out hO (by omega); have hcA5 := BA5.cell; have hcA2 := BA2.cell; have hfA2 := BA2.frozen; have hlA2 := BA2.lt))
  all_goals
    have hFA := Lib.hid ((HF5.out.out hOwE (fun q hq => by omega)).out (out_set wE b2 0 (.slice A N c)) (fun q hq => by omega))
    have hsA := hOwE.size
    go_wp2_with fail
    refine bodyPost_ret (v := .tuple #[.agg #[.slice A N c], .int .i64 idv, .int .i64 (y - 3), .int .i64 byv]) (by simp [results, Tryd.results5, go_sem, hcA2, hfA2]) rfl ⟨A, N, c, ls, idv, y - 3, byv, rfl, hFA.out.weak (fun q hq => Or.inl (by have : q < w.heap.size := hq; omega)), ?_⟩
    exact (hbw5.trans (hOwE.below (B := w.heap.size) (by have := hbw5.size; omega) (fun q hq => by omega))).setCell (by simp; omega) _
end Go.Proofs.YtohfnpohmieknaaDoor

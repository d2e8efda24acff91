/- A drawn token. -/
import Derived.Test.YtcfhnhhgnophhaaPkNames
set_option linter.unusedSimpArgs false
set_option linter.unusedVariables false
set_option maxRecDepth 20000
namespace Go.Proofs.Ytcfhnhhgnophhaa
open Go.RowKit
variable {B : Nat}
theorem Out.sub {S T : Nat → Prop} {a b : World} (h : Out S a b) (hS : ∀ q, S q → T q) : Out T a b := ⟨h.os, h.tape, h.output, h.size, fun k hk hs => h.block k hk (fun q => hs (hS k q))⟩
theorem Out.join {S T : Nat → Prop} {a b c : World} (h : Out S a b) (k : Out T b c) (hT : ∀ q, T q → S q ∨ a.heap.size ≤ q) : Out S a c :=
  ⟨k.os.trans h.os, k.tape.trans h.tape, k.output.trans h.output, Nat.le_trans h.size k.size, fun q hq hs => (k.block q (Nat.lt_of_lt_of_le hq h.size) (fun ht => by rcases hT q ht with h1 | h1; exact hs h1; omega)).trans (h.block q hq hs)⟩
theorem row7 {w : World} {X : Nat → Prop} {b off k : Nat} {ds : List TokD} {d : TokD} (h : RdIn w X (some ⟨b, off, none⟩) (ds.flatMap TokD.cells)) (hd : ds[k]? = some d) : ∀ i u, d.cells[i]? = some u → w.cell? ⟨b, off + (k * 7 + i), none⟩ = some u := by
  intro i u hu
  obtain ⟨hk, rfl⟩ := List.getElem?_eq_some_iff.1 hd
  have hi : i < 7 := by have := (List.getElem?_eq_some_iff.1 hu).1; rw [TokD.len] at this; exact this
  have hf := flat_at TokD.cells 7 TokD.len ds k i hk hi
  obtain ⟨b', off', e, -, hc⟩ := h.1 (by rw [flat_length TokD.cells 7 TokD.len]; omega)
  simp only [Option.some.injEq, Addr.mk.injEq, and_true] at e
  obtain ⟨rfl, rfl⟩ := e
  exact hc _ _ (hf.trans hu)
theorem row_all {w : World} {X : Nat → Prop} {b off k : Nat} {ds : List TokD} {d : TokD} (h : RdIn w X (some ⟨b, off, none⟩) (ds.flatMap TokD.cells)) (hd : ds[k]? = some d) : w.cell? ⟨b, off + k * 7, none⟩ = some (.int .i64 d.t.Id) ∧ w.cell? ⟨b, off + k * 7 + 1, none⟩ = some (.int .i64 d.t.Parent) ∧ w.cell? ⟨b, off + k * 7 + 2, none⟩ = some (.slice d.A d.t.Names.length d.c) ∧ w.cell? ⟨b, off + k * 7 + 3, none⟩ = some (.int .i64 d.t.Made) ∧ w.cell? ⟨b, off + k * 7 + 4, none⟩ = some (.int .i64 d.t.Ends) ∧ w.cell? ⟨b, off + k * 7 + 5, none⟩ = some (.int .i64 d.t.Limit) ∧ w.cell? ⟨b, off + k * 7 + 6, none⟩ = some (.int .i64 d.t.Uses) :=
  ⟨row7 h hd 0 _ rfl, row7 h hd 1 _ rfl, row7 h hd 2 _ rfl, row7 h hd 3 _ rfl, row7 h hd 4 _ rfl, row7 h hd 5 _ rfl, row7 h hd 6 _ rfl⟩
theorem own_max {w : World} {base n c size : Nat} {e : TypeId} {A : Option Addr} {xs : List Value} (h : w.ownsRow base e size (.slice A n c) n xs) : c ≤ 9223372036854775807 := by
  rcases h.2 with ⟨hv, hn⟩ | ⟨g, cap, cur, hv, _, _, _, hcm, _⟩
  · simp only [Value.slice.injEq] at hv; omega
  · simp only [Value.slice.injEq] at hv; simp only [maxLen] at hcm; omega
/-- What is known of the token under way: its box, its names, the cursor. -/
def TS (K B g b4 b5 base : Nat) (w0 w : World) (d : TokD) : Prop := Blk w b5 35 #[.int .i64 d.t.Id, .int .i64 d.t.Parent, .slice d.A d.t.Names.length d.c, .int .i64 d.t.Made, .int .i64 d.t.Ends, .int .i64 d.t.Limit, .int .i64 d.t.Uses] ∧ TIn w (fun q => q < base ∨ q = b4 ∨ q = b5) K d ∧ Cur B w g ∧ Out (fun q => q = g ∨ q = b5) w0 w
theorem TIn.ints {w : World} {X : Nat → Prop} {K : Nat} {d : TokD} (h : TIn w X K d) (i p m e l u : Int) : TIn w X K ⟨⟨i, p, d.t.Names, m, e, l, u⟩, d.A, d.c⟩ := ⟨h.rd, h.cap, h.max, h.few, h.short⟩
def TokD.put (d : TokD) (i : Nat) (v : Int) : TokD := match i with
  | 0 => ⟨⟨v, d.t.Parent, d.t.Names, d.t.Made, d.t.Ends, d.t.Limit, d.t.Uses⟩, d.A, d.c⟩
  | 1 => ⟨⟨d.t.Id, v, d.t.Names, d.t.Made, d.t.Ends, d.t.Limit, d.t.Uses⟩, d.A, d.c⟩
  | 3 => ⟨⟨d.t.Id, d.t.Parent, d.t.Names, v, d.t.Ends, d.t.Limit, d.t.Uses⟩, d.A, d.c⟩
  | 4 => ⟨⟨d.t.Id, d.t.Parent, d.t.Names, d.t.Made, v, d.t.Limit, d.t.Uses⟩, d.A, d.c⟩
  | 5 => ⟨⟨d.t.Id, d.t.Parent, d.t.Names, d.t.Made, d.t.Ends, v, d.t.Uses⟩, d.A, d.c⟩
  | _ => ⟨⟨d.t.Id, d.t.Parent, d.t.Names, d.t.Made, d.t.Ends, d.t.Limit, v⟩, d.A, d.c⟩
theorem TS.out {K B g b4 b5 base : Nat} {w0 w w' : World} {d : TokD} (h : TS K B g b4 b5 base w0 w d) (ho : Out (fun q => q = g) w w') (hc : Cur B w' g) (hg : g < base) (h5 : g < b5) : TS K B g b4 b5 base w0 w' d := by
  obtain ⟨h1, h2, h3, h4⟩ := h
  exact ⟨h1.out ho (by omega), h2.out ho (fun q hq => Or.inl (by omega)), hc, h4.trans (ho.sub (fun q hq => Or.inl hq))⟩
theorem TS.put {K B g b4 b5 base : Nat} {w0 w : World} {d : TokD} (h : TS K B g b4 b5 base w0 w d) (hg : g < base) (h5 : base ≤ b5) (i : Nat) (hi : i = 0 ∨ i = 1 ∨ i = 3 ∨ i = 4 ∨ i = 5 ∨ i = 6) (v : Int) : TS K B g b4 b5 base w0 (w.setCell ⟨b5, i, none⟩ (.int .i64 v)) (d.put i v) := by
  obtain ⟨h1, h2, h3, h4⟩ := h
  have hBg := h3.le
  have k2 : ∀ j u, TIn (w.setCell ⟨b5, j, none⟩ u) (fun q => q < base ∨ q = b4 ∨ q = b5) K d := fun j u => h2.out (out_set w b5 j u) (fun q hq => Or.inr (Or.inr hq))
  have k3 : Cur B (w.setCell ⟨b5, i, none⟩ (.int .i64 v)) g := h3.out (out_set _ _ _ _) (fun q hq => by omega)
  have k4 : Out (fun q => q = g ∨ q = b5) w0 (w.setCell ⟨b5, i, none⟩ (.int .i64 v)) := h4.trans ((out_set w b5 i _).sub (fun q hq => Or.inr hq))
  rcases hi with rfl | rfl | rfl | rfl | rfl | rfl
  all_goals exact ⟨h1.set_ _ _, (k2 _ _).ints _ _ _ _ _ _, k3, k4⟩
theorem TS.drew {K B g b4 b5 base : Nat} {w0 w : World} {d : TokD} (h : TS K B g b4 b5 base w0 w d) : TS K B g b4 b5 base w0 w.drew d := by
  obtain ⟨h1, h2, h3, h4⟩ := h
  exact ⟨h1.drew, h2.keep ((Below.refl _ _).drew), h3.drew, h4.drew⟩
set_option maxHeartbeats 6400000 in
theorem spec_l08DrawToken (K g : Nat) (A0 : Option Addr) (n c0 : Nat) (ds : List TokD) (w : World) (hc : Cur B w g) (hr : RdIn w (fun q => q = g) A0 (ds.flatMap TokD.cells)) (hn : ds.length = n) (hn2 : n ≤ 121) (hall : ∀ d ∈ ds, TIn w (fun q => q = g) K d) (hK : 6 ≤ K) (hK2 : K ≤ 1000) :
    Calls Try.prog 43 #[.pointer (some ⟨g, 0, none⟩), .agg #[.slice A0 n c0]] w fun e w' => ∃ d : TokD, e = .returned (.agg #[.int .i64 d.t.Id, .int .i64 d.t.Parent, .slice d.A d.t.Names.length d.c, .int .i64 d.t.Made, .int .i64 d.t.Ends, .int .i64 d.t.Limit, .int .i64 d.t.Uses]) ∧ TIn w' (Low w.heap.size) K d ∧ Cur B w' g ∧ Out (fun q => q = g) w w' := by
  obtain ⟨i0, hi0, hI0, hI1', hI2'⟩ := info_parts info_string
  have Hn := Lib.hid hn
  have HAll := Lib.hid hall
  have HRow := Lib.hid hr
  have hA0 : 0 < n → ∃ bR offR, A0 = some ⟨bR, offR, none⟩ ∧ bR < w.heap.size := fun h0 => by
    obtain ⟨b, off, e, hb, -⟩ := hr.1 (by rw [flat_length TokD.cells 7 TokD.len, hn]; omega)
    exact ⟨b, off, e, hb⟩
  have hgl := hc.lt
  have hBg := hc.le
  clear hn hr hall
  have hbA : Below w.heap.size w ((w.alloc (.cells #[.slice A0 n c0] 26)).alloc (.cells #[.int .i64 0, .int .i64 0, .slice none 0 0, .int .i64 0, .int .i64 0, .int .i64 0, .int .i64 0] 35)) := by (repeat (first | (with_reducible exact Below.refl _ _) | (with_reducible assumption) | ((with_reducible refine Below.setCell ?_ ?_ _); rotate_left; focus (first | omega | (simp; done) | (simp; omega))) | ((with_reducible refine Below.alloc ?_ ?_ _); rotate_left; focus (first | omega | (simp; done) | (simp; omega))) | (with_reducible refine Below.drew ?_) | (with_reducible refine below_drewN ?_ _) | (refine Below.trans ?_ (Below.mono (by with_reducible assumption) (by (first | omega | (simp; done) | (simp; omega)))))))
  have B3 : Blk ((w.alloc (.cells #[.slice A0 n c0] 26)).alloc (.cells #[.int .i64 0, .int .i64 0, .slice none 0 0, .int .i64 0, .int .i64 0, .int .i64 0, .int .i64 0] 35)) w.heap.size 26 #[.slice A0 n c0] := (Blk.new' rfl).alloc _
  have B4 : Blk ((w.alloc (.cells #[.slice A0 n c0] 26)).alloc (.cells #[.int .i64 0, .int .i64 0, .slice none 0 0, .int .i64 0, .int .i64 0, .int .i64 0, .int .i64 0] 35)) (w.heap.size + 1) 35 #[.int .i64 0, .int .i64 0, .slice none 0 0, .int .i64 0, .int .i64 0, .int .i64 0, .int .i64 0] := Blk.new' (by simp)
  have HsA : Hid (w.heap.size + 2 = ((w.alloc (.cells #[.slice A0 n c0] 26)).alloc (.cells #[.int .i64 0, .int .i64 0, .slice none 0 0, .int .i64 0, .int .i64 0, .int .i64 0, .int .i64 0] 35)).heap.size) := Lib.hid (by simp)
  have hcA := hc.below hbA
  go_enter Try.func43, Try.ntmps43
  go_wp2_with fail
  generalize ((w.alloc (.cells #[.slice A0 n c0] 26)).alloc (.cells #[.int .i64 0, .int .i64 0, .slice none 0 0, .int .i64 0, .int .i64 0, .int .i64 0, .int .i64 0] 35)) = wa at *
  have hsA := HsA.out
  obtain ⟨b4, hb4⟩ : ∃ b4, b4 = w.heap.size + 1 := ⟨_, rfl⟩
  rw [← hb4] at B4 ⊢
  have hOA := Out.of_below (S := fun q => q = g) hbA
  have h4s : w.heap.size < b4 := by omega
  have h4l : b4 < wa.heap.size := by omega
  have h4e := Lib.hid hb4
  clear hb4 HsA hbA
  refine (spec_l01Below g 3 _ hcA (by omega)).mono ?_
  rintro e w1 ⟨x1, rfl, hx10, hx11, -, hd1⟩
  have hs1 := hd1.size
  go_wp2_with fail
  refine (spec_l08DrawNames g w1 hd1.1).mono ?_
  rintro e w2 ⟨An, cn, xs, rfl, hl2, hsh, hon, hc2, hO2⟩
  have hs2 := hO2.size
  have HXs := Lib.hid hl2
  have HSh := Lib.hid hsh
  have HOn := Lib.hid hon
  clear hl2 hsh hon
  go_wp2_with fail
  refine (spec_l01Below g 60 _ hc2 (by omega)).mono ?_
  rintro e w3 ⟨x3, rfl, hx30, hx31, -, hd3⟩
  have hs3 := hd3.size
  go_wp2_with fail
  refine (spec_pickLit g w3 [0, 0, 1, 2, 3] hd3.1 (by simp) (by simp)).mono ?_
  rintro e w4 ⟨x4, rfl, -, hc4, hO4, hs4⟩
  have hO1 := ((hd1.2.trans hO2).trans hd3.2).trans hO4
  have B34 := B3.out hO1 (by omega)
  have B44 := B4.out hO1 (by omega)
  have hOw := hOA.trans hO1
  have HON4 := Lib.hid (own_out (own_drawn HOn.out hd3 (by omega)) hO4 (fun q hq e => by have := (HOn.out.lt q hq).1; omega))
  have hb5 : Below w4.heap.size w4 (w4.alloc (.cells #[.int .i64 (1 + x1), .int .i64 0, .slice An xs.length cn, .int .i64 x3, .int .i64 0, .int .i64 0, .int .i64 x4] 35)) := by (repeat (first | (with_reducible exact Below.refl _ _) | (with_reducible assumption) | ((with_reducible refine Below.setCell ?_ ?_ _); rotate_left; focus (first | omega | (simp; done) | (simp; omega))) | ((with_reducible refine Below.alloc ?_ ?_ _); rotate_left; focus (first | omega | (simp; done) | (simp; omega))) | (with_reducible refine Below.drew ?_) | (with_reducible refine below_drewN ?_ _) | (refine Below.trans ?_ (Below.mono (by with_reducible assumption) (by (first | omega | (simp; done) | (simp; omega)))))))
  have B5 : Blk (w4.alloc (.cells #[.int .i64 (1 + x1), .int .i64 0, .slice An xs.length cn, .int .i64 x3, .int .i64 0, .int .i64 0, .int .i64 x4] 35)) w4.heap.size 35 #[.int .i64 (1 + x1), .int .i64 0, .slice An xs.length cn, .int .i64 x3, .int .i64 0, .int .i64 0, .int .i64 x4] := Blk.new' rfl
  have HsB : Hid (w4.heap.size + 1 = (w4.alloc (.cells #[.int .i64 (1 + x1), .int .i64 0, .slice An xs.length cn, .int .i64 x3, .int .i64 0, .int .i64 0, .int .i64 x4] 35)).heap.size) := Lib.hid (by simp)
  have B35 := B34.keep hb5; have B45 := B44.keep hb5
  have HON5 := Lib.hid (own_below HON4.out hb5)
  have hc5 := hc4.below hb5
  have hOw5 := hOw.trans (Out.of_below (S := fun q => q = g) hb5)
  have hc3x := B35.cell
  go_upto_if 24 with fail
  generalize (w4.alloc (.cells #[.int .i64 (1 + x1), .int .i64 0, .slice An xs.length cn, .int .i64 x3, .int .i64 0, .int .i64 0, .int .i64 x4] 35)) = w0 at *
  have hsB := HsB.out
  obtain ⟨b5, hb5e⟩ : ∃ b5, b5 = w4.heap.size := ⟨_, rfl⟩
  rw [← hb5e] at B5 ⊢
  have h45 : b4 < b5 := by omega
  have hs5 : b5 + 1 = w0.heap.size := by omega
  have HT0 : TS K B g b4 b5 w.heap.size w0 w0 ⟨⟨1 + x1, 0, xs, x3, 0, 0, x4⟩, An, cn⟩ := ⟨B5, ⟨RdIn.own HON5.out (fun q hq => by
      rcases hq with hq | hq | hq
      · left; omega
      · left; omega
      · right; intro q2 hq2 e2; have := (HOn.out.lt q2 hq2).2; omega), own_cap HON5.out, own_max HON5.out, by have := HXs.out; show xs.length ≤ K; omega, HSh.out⟩, hc5, Out.refl _ _⟩
  clear hb5e HsB hsB hb5 B34 B44 B3 B4 hc4 hO4 hd3 hO2 hc2 hd1 hcA hOA hOw hO1 HON4 HON5 HOn B5 hc5 hx11 hx31 hs1 hs2 hs3 hs4 hsA hc3x
  go_cut [] (fun wx => ∃ d, TS K B g b4 b5 w.heap.size w0 wx d)
  case first =>
    by_cases h0 : 0 < n
    · obtain ⟨bR, offR, rfl, hbR⟩ := hA0 h0
      obtain ⟨N, rfl⟩ : ∃ N, n = N + 1 := ⟨n - 1, by omega⟩
      have hw1 : IntKind.i64.wrap (((N : Int) + 1) - 1) = (N : Int) := by rw [IntWalk.i64_in _ (by omega)]; omega
      have hw2 : IntKind.i64.wrap (N : Int) = (N : Int) := IntWalk.i64_in _ (by omega)
      have HRow5 := Lib.hid ((HRow.out.weak (X' := fun q => q = g ∨ w.heap.size ≤ q) (fun q hq => hq)).out hOw5 (fun q h => Or.inl h))
      have HAll5 := Lib.hid (fun (d : TokD) (hd : d ∈ ds) => ((HAll.out d hd).weak (X' := fun q => q = g ∨ w.heap.size ≤ q) (fun q hq => hq) (Nat.le_refl _)).out hOw5 (fun q h => Or.inl h))
      have hNl : N < ds.length := by rw [Hn.out]; omega
      have HId := Lib.hid (row7 HRow5.out (List.getElem?_eq_getElem hNl) 0 _ rfl)
      generalize (ds[N]'hNl).t.Id = idN at HId
      have hid := HId.out
      rw [Nat.add_zero] at hid
      have hRg : bR ≠ g := HRow.out.2 bR offR none rfl (by rw [flat_length TokD.cells 7 TokD.len, Hn.out]; omega)
      obtain ⟨BK5, hT, hcu, hO⟩ := HT0
      dsimp only at BK5
      have hc3 := B35.cell; have hc5 := BK5.cell; have hf5 := BK5.frozen
      have hI1 : (N : Int) < (N : Int) + 1 := by omega
      have hI2 : (0 : Int) < (N : Int) + 1 := by omega
      go_wp2_with fail
      go_cut [] (fun wx => ∃ d, TS K B g b4 b5 w.heap.size w0 wx d)
      case first =>
        go_region_law (first | (go_simp; go_at_call 55; refine (spec_l01Below g 3 _ (hcu.below (by (repeat (first | (with_reducible exact Below.refl _ _) | (with_reducible assumption) | ((with_reducible refine Below.setCell ?_ ?_ _); rotate_left; focus (first | omega | (simp; done) | (simp; omega))) | ((with_reducible refine Below.alloc ?_ ?_ _); rotate_left; focus (first | omega | (simp; done) | (simp; omega))) | (with_reducible refine Below.drew ?_) | (with_reducible refine below_drewN ?_ _) | (refine Below.trans ?_ (Below.mono (by with_reducible assumption) (by (first | omega | (simp; done) | (simp; omega))))))))) (by omega)).mono ?_; rintro e wA ⟨y, rfl, hy0, hy1, -, hdA⟩; have hsA : w0.heap.size ≤ wA.heap.size := (by simpa using hdA.size); have hOg : Out (fun q => q = g) w0 wA := (Out.trans (Out.of_below (by (repeat (first | (with_reducible exact Below.refl _ _) | (with_reducible assumption) | ((with_reducible refine Below.setCell ?_ ?_ _); rotate_left; focus (first | omega | (simp; done) | (simp; omega))) | ((with_reducible refine Below.alloc ?_ ?_ _); rotate_left; focus (first | omega | (simp; done) | (simp; omega))) | (with_reducible refine Below.drew ?_) | (with_reducible refine below_drewN ?_ _) | (refine Below.trans ?_ (Below.mono (by with_reducible assumption) (by (first | omega | (simp; done) | (simp; omega))))))))) hdA.2); have BA5 := BK5.out hOg (by omega); have BA3 := B35.out hOg (by omega); have hcA5 := BA5.cell; have hfA5 := BA5.frozen; have hcA3 := BA3.cell; have hidA : wA.cell? ⟨bR, offR + N * 7, none⟩ = some (.int .i64 idN) := ((World.cell?_of_block (w := w0) (hOg.block bR (by omega) hRg)).trans hid)))
        all_goals
          go_wp2_with fail
          go_meet
          exact ⟨_, ((TS.out ⟨BK5, hT, hcu, hO⟩ hOg hdA.1 (by omega) (by omega))).put (by omega) (by omega) 0 (by omega) _⟩
      case rest =>
        clear BK5 hT hcu hO hc3 hc5 hf5 hid HId
        obtain ⟨d, BK5, hT, hcu, hO⟩ := hcut
        obtain ⟨w6, hw6⟩ : ∃ w_, w_ = wc := ⟨_, rfl⟩
        subst hw6
        have hz6 := hO.size
        have hO6 := hO
        go_wp2_with fail
        refine (spec_l01Below g 4 _ hcu (by omega)).mono ?_
        rintro e w7 ⟨x5, rfl, hx50, hx51, -, hd7⟩
        have hz7 := hd7.size
        have hT7 := TS.out ⟨BK5, hT, hcu, hO⟩ hd7.2 hd7.1 (by omega) (by omega)
        have B37 := (B35.out hO (by omega)).out hd7.2 (by omega)
        clear BK5 hT hcu hO
        by_cases hx5 : 0 < x5
        rotate_left
        · go_wp2_with fail
          go_meet
          exact ⟨_, hT7⟩
        obtain ⟨BK5, hT, hcu, hO⟩ := id hT7
        have hc3 := B37.cell
        have HRow7 := Lib.hid (HRow5.out.out hO (fun q hq => by rcases hq with h | h; exact Or.inl h; right; omega))
        have HAll7 := Lib.hid (fun (d : TokD) (hd : d ∈ ds) => (HAll5.out d hd).out hO (fun q hq => by rcases hq with h | h; exact Or.inl h; right; omega))
        have hc5 := BK5.cell; have hf5 := BK5.frozen; have hl3 := B37.lt; have hf3 := B37.frozen
        go_wp2_with fail
        go_cut [7] (fun s7 wx => ∃ (b7 : Nat) (p : TokD), s7 = .pointer (some ⟨b7, 0, none⟩) ∧ w7.heap.size ≤ b7 ∧ Blk wx b7 35 #[.int .i64 p.t.Id, .int .i64 p.t.Parent, .slice p.A p.t.Names.length p.c, .int .i64 p.t.Made, .int .i64 p.t.Ends, .int .i64 p.t.Limit, .int .i64 p.t.Uses] ∧ TIn wx (fun q => q = g ∨ w.heap.size ≤ q) K p ∧ TS K B g b4 b5 w.heap.size w0 wx d)
        case first =>
          go_region_law (first | (go_simp; go_at_call 55; refine (spec_l01Below g ((N : Int) + 1) _ (hcu.below (by (repeat (first | (with_reducible exact Below.refl _ _) | (with_reducible assumption) | ((with_reducible refine Below.setCell ?_ ?_ _); rotate_left; focus (first | omega | (simp; done) | (simp; omega))) | ((with_reducible refine Below.alloc ?_ ?_ _); rotate_left; focus (first | omega | (simp; done) | (simp; omega))) | (with_reducible refine Below.drew ?_) | (with_reducible refine below_drewN ?_ _) | (refine Below.trans ?_ (Below.mono (by with_reducible assumption) (by (first | omega | (simp; done) | (simp; omega))))))))) (by omega)).mono ?_; rintro e wA ⟨y, rfl, hy0, hy1, -, hdA⟩; have hyn := hy1 (by omega); obtain ⟨k, rfl⟩ : ∃ k : Nat, y = k := ⟨y.toNat, by omega⟩; have hsA : w7.heap.size ≤ wA.heap.size := (by have h := hdA.size; (try simp at h); omega); have hOg : Out (fun q => q = g) w7 wA := (Out.trans (Out.of_below (by (repeat (first | (with_reducible exact Below.refl _ _) | (with_reducible assumption) | ((with_reducible refine Below.setCell ?_ ?_ _); rotate_left; focus (first | omega | (simp; done) | (simp; omega))) | ((with_reducible refine Below.alloc ?_ ?_ _); rotate_left; focus (first | omega | (simp; done) | (simp; omega))) | (with_reducible refine Below.drew ?_) | (with_reducible refine below_drewN ?_ _) | (refine Below.trans ?_ (Below.mono (by with_reducible assumption) (by (first | omega | (simp; done) | (simp; omega))))))))) hdA.2); have hkl : k < ds.length := (by rw [Hn.out]; omega); have HKd := Lib.hid (List.getElem?_eq_getElem hkl); have HTk := Lib.hid ((HAll7.out _ (List.getElem_mem hkl)).out hOg (fun q hq => Or.inl hq)); generalize ds[k]'hkl = p at HKd HTk; have BA3 := B37.out hOg (by omega); have hcA3 := BA3.cell; have hl3A := BA3.lt; have hbRA : bR < wA.heap.size := (by omega); have hra := row_all (HRow7.out.out hOg (fun q hq => Or.inl hq)) HKd.out; obtain ⟨r0, r1, r2, r3, r4, r5, r6⟩ := hra; clear hkl; (try ((refine (fun BN1 : Blk wA (w7.heap.size) 35 #[.int .i64 0, .int .i64 0, .slice none 0 0, .int .i64 0, .int .i64 0, .int .i64 0, .int .i64 0] => ?_ : Blk wA (w7.heap.size) 35 #[.int .i64 0, .int .i64 0, .slice none 0 0, .int .i64 0, .int .i64 0, .int .i64 0, .int .i64 0] → _) ?_); (rotate_left; focus ((refine Blk.out ?_ hdA.2 (by omega)); (repeat (first | (with_reducible assumption) | ((with_reducible refine Blk.new' ?_); focus (simp; done)) | (with_reducible refine Blk.alloc ?_ _) | (with_reducible refine Blk.drew ?_) | (with_reducible refine Blk.drewN ?_ _) | ((with_reducible refine Blk.far ?_ ?_ _); rotate_left; focus (first | omega | (simp; done) | (simp; omega))) | (refine Blk.keep ?_ (by with_reducible assumption)) | (refine Blk.below ?_ (by with_reducible assumption) (by (first | omega | (simp; done) | (simp; omega)))))); done)); have hcN1 := BN1.cell; have hfN1 := BN1.frozen; have hlN1 := BN1.lt))))
          all_goals first | (have BX : Blk (World.setCell (World.setCell (World.setCell (World.setCell (World.setCell (World.setCell (World.setCell wA ⟨w7.heap.size, 0, none⟩ (.int .i64 p.t.Id)) ⟨w7.heap.size, 1, none⟩ (.int .i64 p.t.Parent)) ⟨w7.heap.size, 2, none⟩ (.slice p.A p.t.Names.length p.c)) ⟨w7.heap.size, 3, none⟩ (.int .i64 p.t.Made)) ⟨w7.heap.size, 4, none⟩ (.int .i64 p.t.Ends)) ⟨w7.heap.size, 5, none⟩ (.int .i64 p.t.Limit)) ⟨w7.heap.size, 6, none⟩ (.int .i64 p.t.Uses)) w7.heap.size 35 #[.int .i64 p.t.Id, .int .i64 p.t.Parent, .slice p.A p.t.Names.length p.c, .int .i64 p.t.Made, .int .i64 p.t.Ends, .int .i64 p.t.Limit, .int .i64 p.t.Uses] := (Blk.set_ (Blk.set_ (Blk.set_ (Blk.set_ (Blk.set_ (Blk.set_ (Blk.set_ BN1 0 (.int .i64 p.t.Id)) 1 (.int .i64 p.t.Parent)) 2 (.slice p.A p.t.Names.length p.c)) 3 (.int .i64 p.t.Made)) 4 (.int .i64 p.t.Ends)) 5 (.int .i64 p.t.Limit)) 6 (.int .i64 p.t.Uses)); have hO7 : Out (fun q => q = w7.heap.size) wA (World.setCell (World.setCell (World.setCell (World.setCell (World.setCell (World.setCell (World.setCell wA ⟨w7.heap.size, 0, none⟩ (.int .i64 p.t.Id)) ⟨w7.heap.size, 1, none⟩ (.int .i64 p.t.Parent)) ⟨w7.heap.size, 2, none⟩ (.slice p.A p.t.Names.length p.c)) ⟨w7.heap.size, 3, none⟩ (.int .i64 p.t.Made)) ⟨w7.heap.size, 4, none⟩ (.int .i64 p.t.Ends)) ⟨w7.heap.size, 5, none⟩ (.int .i64 p.t.Limit)) ⟨w7.heap.size, 6, none⟩ (.int .i64 p.t.Uses)) := (Out.trans (Out.trans (Out.trans (Out.trans (Out.trans (Out.trans (out_set wA w7.heap.size 0 (.int .i64 p.t.Id)) (out_set _ w7.heap.size 1 (.int .i64 p.t.Parent))) (out_set _ w7.heap.size 2 (.slice p.A p.t.Names.length p.c))) (out_set _ w7.heap.size 3 (.int .i64 p.t.Made))) (out_set _ w7.heap.size 4 (.int .i64 p.t.Ends))) (out_set _ w7.heap.size 5 (.int .i64 p.t.Limit))) (out_set _ w7.heap.size 6 (.int .i64 p.t.Uses))); have hOX : Out (fun q => q = g) w7 (World.setCell (World.setCell (World.setCell (World.setCell (World.setCell (World.setCell (World.setCell wA ⟨w7.heap.size, 0, none⟩ (.int .i64 p.t.Id)) ⟨w7.heap.size, 1, none⟩ (.int .i64 p.t.Parent)) ⟨w7.heap.size, 2, none⟩ (.slice p.A p.t.Names.length p.c)) ⟨w7.heap.size, 3, none⟩ (.int .i64 p.t.Made)) ⟨w7.heap.size, 4, none⟩ (.int .i64 p.t.Ends)) ⟨w7.heap.size, 5, none⟩ (.int .i64 p.t.Limit)) ⟨w7.heap.size, 6, none⟩ (.int .i64 p.t.Uses)) := (Out.newer (Out.newer (Out.newer (Out.newer (Out.newer (Out.newer (Out.newer hOg (p := ⟨w7.heap.size, 0, none⟩) (Nat.le_refl _) (.int .i64 p.t.Id)) (p := ⟨w7.heap.size, 1, none⟩) (Nat.le_refl _) (.int .i64 p.t.Parent)) (p := ⟨w7.heap.size, 2, none⟩) (Nat.le_refl _) (.slice p.A p.t.Names.length p.c)) (p := ⟨w7.heap.size, 3, none⟩) (Nat.le_refl _) (.int .i64 p.t.Made)) (p := ⟨w7.heap.size, 4, none⟩) (Nat.le_refl _) (.int .i64 p.t.Ends)) (p := ⟨w7.heap.size, 5, none⟩) (Nat.le_refl _) (.int .i64 p.t.Limit)) (p := ⟨w7.heap.size, 6, none⟩) (Nat.le_refl _) (.int .i64 p.t.Uses)); go_wp2_with fail; go_meet; exact ⟨w7.heap.size, p, rfl, Nat.le_refl _, BX, HTk.out.out hO7 (fun q hq => Or.inr (by omega)), TS.out hT7 hOX (hdA.1.out hO7 (fun q hq => by omega)) (by omega) (by omega)⟩) | (have BX : Blk (World.alloc wA (.cells #[.int .i64 p.t.Id, .int .i64 p.t.Parent, .slice p.A p.t.Names.length p.c, .int .i64 p.t.Made, .int .i64 p.t.Ends, .int .i64 p.t.Limit, .int .i64 p.t.Uses] 35)) wA.heap.size 35 #[.int .i64 p.t.Id, .int .i64 p.t.Parent, .slice p.A p.t.Names.length p.c, .int .i64 p.t.Made, .int .i64 p.t.Ends, .int .i64 p.t.Limit, .int .i64 p.t.Uses] := Blk.new' rfl; have hbX : Below wA.heap.size wA (World.alloc wA (.cells #[.int .i64 p.t.Id, .int .i64 p.t.Parent, .slice p.A p.t.Names.length p.c, .int .i64 p.t.Made, .int .i64 p.t.Ends, .int .i64 p.t.Limit, .int .i64 p.t.Uses] 35)) := (Below.refl _ _).alloc (Nat.le_refl _) _; go_wp2_with fail; go_meet; exact ⟨wA.heap.size, p, rfl, hsA, BX, HTk.out.keep hbX, TS.out hT7 (hOg.trans (Out.of_below hbX)) (hdA.1.below hbX) (by omega) (by omega)⟩)
        case rest =>
          obtain ⟨b7, p, rfl, hb7, B7, hTp, hTS⟩ := hcut
          obtain ⟨w8, hw8⟩ : ∃ w_, w_ = wc := ⟨_, rfl⟩
          subst hw8
          clear B37 hc3 hf3 hl3 hc5 hf5 BK5 hT hcu hO hT7 HRow7 HAll7 hd7
          have hl7 := B7.lt
          obtain ⟨np, hnp⟩ : ∃ np, p.t.Names.length = np := ⟨_, rfl⟩
          have hnp8 : np ≤ K := by rw [← hnp]; exact hTp.few
          rw [hnp] at B7
          have Hnp := Lib.hid hnp
          clear hnp
          have hT8 := hTS
          obtain ⟨BK5, -, hcu, hO⟩ := hTS
          have hl5 := BK5.lt
          have hc5 := BK5.cell; have hf5 := BK5.frozen; have hc7 := B7.cell
          have hlit : World.ownsRow _ _ 9 1 _ _ _ := World.ownsRow_lit (size := 1) ((w8.setCell ⟨b5, 1, none⟩ (.int .i64 p.t.Id)).setCell ⟨b5, 2, none⟩ (.slice (some ⟨w8.heap.size, 0, none⟩) 0 0)) #[] 0 (Nat.le_refl _) (by simp [maxLen]) rfl
          have hlit2 : World.ownsRow (((w8.setCell ⟨b5, 1, none⟩ (.int .i64 p.t.Id)).setCell ⟨b5, 2, none⟩ (.slice (some ⟨w8.heap.size, 0, none⟩) 0 0)).alloc (.cells #[] 9)) (b7 + 1) 9 1 (.slice (some ⟨w8.heap.size, 0, none⟩) 0 0) 0 [] := own_base (base := w8.heap.size) (by simpa using hlit) (by omega)
          have hS9 : Out (fun q => q = b5) w8 (((w8.setCell ⟨b5, 1, none⟩ (.int .i64 p.t.Id)).setCell ⟨b5, 2, none⟩ (.slice (some ⟨w8.heap.size, 0, none⟩) 0 0)).alloc (.cells #[] 9)) := ((out_set w8 b5 1 _).trans (out_set _ b5 2 _)).trans (Out.of_below (by (repeat (first | (with_reducible exact Below.refl _ _) | (with_reducible assumption) | ((with_reducible refine Below.setCell ?_ ?_ _); rotate_left; focus (first | omega | (simp; done) | (simp; omega))) | ((with_reducible refine Below.alloc ?_ ?_ _); rotate_left; focus (first | omega | (simp; done) | (simp; omega))) | (with_reducible refine Below.drew ?_) | (with_reducible refine below_drewN ?_ _) | (refine Below.trans ?_ (Below.mono (by with_reducible assumption) (by (first | omega | (simp; done) | (simp; omega)))))))))
          have B59 : Blk (((w8.setCell ⟨b5, 1, none⟩ (.int .i64 p.t.Id)).setCell ⟨b5, 2, none⟩ (.slice (some ⟨w8.heap.size, 0, none⟩) 0 0)).alloc (.cells #[] 9)) b5 35 #[.int .i64 d.t.Id, .int .i64 p.t.Id, .slice (some ⟨w8.heap.size, 0, none⟩) 0 0, .int .i64 d.t.Made, .int .i64 d.t.Ends, .int .i64 d.t.Limit, .int .i64 d.t.Uses] := ((BK5.set_ 1 _).set_ 2 _).alloc _
          have B79 := B7.out hS9 (by omega)
          have hcu9 := hcu.out hS9 (fun q hq => by omega)
          have hTp9 := hTp.out hS9 (fun q hq => Or.inr (by omega))
          have hO9 := hO.trans (hS9.sub (fun q hq => Or.inr hq))
          clear hlit
          go_wp2_with fail
          generalize (((w8.setCell ⟨b5, 1, none⟩ (.int .i64 p.t.Id)).setCell ⟨b5, 2, none⟩ (.slice (some ⟨w8.heap.size, 0, none⟩) 0 0)).alloc (.cells #[] 9)) = w9 at *
          clear hS9 BK5 hcu hO hc5 hf5 hc7 hT8 B7 hTp hl5 hl7
          go_loopw [8] (fun i wr => ∃ (k n1 c1 : Nat) (A1 : Option Addr) (xs : List ByteArray), i = .int .i64 k ∧ k ≤ np ∧ n1 ≤ k ∧ Hid (xs.length = n1) ∧ Hid (∀ s ∈ xs, s.size ≤ 5) ∧ Blk wr b5 35 #[.int .i64 d.t.Id, .int .i64 p.t.Id, .slice A1 n1 c1, .int .i64 d.t.Made, .int .i64 d.t.Ends, .int .i64 d.t.Limit, .int .i64 d.t.Uses] ∧ Blk wr b7 35 #[.int .i64 p.t.Id, .int .i64 p.t.Parent, .slice p.A np p.c, .int .i64 p.t.Made, .int .i64 p.t.Ends, .int .i64 p.t.Limit, .int .i64 p.t.Uses] ∧ wr.ownsRow (b7 + 1) 9 1 (.slice A1 n1 c1) n1 (xs.map strV) ∧ Cur B wr g ∧ Hid (TIn wr (fun q => q = g ∨ w.heap.size ≤ q) K p) ∧ Out (fun q => q = g ∨ q = b5) w0 wr) (fun i _ => np - (intOf i).toNat)
          case atStart => exact ⟨0, 0, 0, _, [], rfl, by omega, by omega, rfl, Lib.hid (by simp), B59, B79, hlit2, hcu9, Lib.hid hTp9, hO9⟩
          case round =>
            clear B59 B79 hlit2 hcu9 hTp9 hO9
            obtain ⟨k, n1, c1, A1, xs, rfl, hk, hnk, hxl, hxs, R5, R7, hown, hcr, hTp, hOr⟩ := hrel
            have hl7 := R7.lt
            have hc7 := R7.cell
            by_cases hlt : k < np
            · have hltI : (k : Int) < (np : Int) := by omega
              go_wp2_with fail
              refine (spec_l01Below g 4 _ hcr (by omega)).mono ?_
              rintro e wd ⟨y, rfl, hy0, hy1, -, hdd⟩
              have hsd := hdd.size
              have R5d := R5.out hdd.2 (by omega)
              have R7d := R7.out hdd.2 (by omega)
              have hod := own_drawn hown hdd (by omega)
              have hTd := hTp.out.out hdd.2 (fun q hq => Or.inl hq)
              have hOd := hOr.trans (hdd.2.sub (fun q hq => Or.inl hq))
              clear hc7
              by_cases hy : 0 < y
              rotate_left
              · go_wp2_with fail
                go_roundw
                case rel => exact ⟨k + 1, n1, c1, A1, xs, by go_num, by omega, by omega, hxl, hxs, R5d, R7d, hod, hdd.1, Lib.hid hTd, hOd⟩
                case measure => simp [intOf]; omega
              · have hkm : k < (p.t.Names.map strV).length := by rw [List.length_map, Hnp.out]; exact hlt
                obtain ⟨bn, offn, hAn, hbn, hcn⟩ := hTd.rd.1.at_ hkm (Below.refl _ _) (Nat.le_refl _)
                rw [List.getElem_map] at hcn
                have hs5 := hTd.short _ (List.getElem_mem (by simpa using hkm : k < p.t.Names.length))
                generalize p.t.Names[k]'(by simpa using hkm) = s at hcn hs5
                simp only [strV] at hcn
                clear hkm
                have hc5 := R5d.cell; have hf5 := R5d.frozen; have hc7 := R7d.cell
                rw [hAn] at hc7
                have hzd : wd.drew.heap.size = wd.heap.size := by simp
                have hl5d := R5d.lt; have hl7d := R7d.lt; have hf7 := R7d.frozen
                have hne : ∀ q, q < b7 + 1 → some q ≠ (Value.slice A1 n1 c1).ownBlock := fun q hq e => by have := (hown.lt _ e.symm).1; omega
                have hlow : ∀ q, (Value.slice A1 n1 c1).ownBlock = some q → b7 + 1 ≤ q := fun q e => (hown.lt q e).1
                have hsd2 : b7 + 1 ≤ wd.heap.size := by omega
                go_wp2_with fail
                go_region_law (first | (go_loud (refine step_append_lies _ (by rfl) _ _ _ (by rfl) (b7 + 1) 9 i0 _ 1 16 Try.underlying33 hi0 hI0 hI1' hI2' rfl (by omega) (.slice A1 n1 c1) n1 _ (by rfl) ((own_drew hod).alloc _) ⟨wd.drew.heap.size, 0, none⟩ 1 1 [.string s] (by rfl) (by rfl) (World.news_of_block (cs := #[.string s]) (t := 9) (fr := (0, 0)) (heap_alloc_new wd.drew _)) (by simp [Value.oneCell']) (by omega) (by simp only [maxLen]; omega) (by omega) (by simp; omega) (wd.drew.heap.size + 1) (by simp) ?_; intro gg cap wf hown1 hgrow hat hlt1; have BY := Blk.grown (R5d.drew.alloc (.cells #[.string s] 9)) hgrow (hne _ (by omega)); have hcY := BY.cell; have hfY := BY.frozen)))
                all_goals
                  have hzg : wd.heap.size + 1 ≤ wf.heap.size := by have h := hgrow.size; simp at h; omega
                  have BY7 := Blk.grown (R7d.drew.alloc (.cells #[.string s] 9)) hgrow (hne _ (by omega))
                  have hOg1 : Out (fun q => b7 + 1 ≤ q) wd wf := (Out.of_below (by (repeat (first | (with_reducible exact Below.refl _ _) | (with_reducible assumption) | ((with_reducible refine Below.setCell ?_ ?_ _); rotate_left; focus (first | omega | (simp; done) | (simp; omega))) | ((with_reducible refine Below.alloc ?_ ?_ _); rotate_left; focus (first | omega | (simp; done) | (simp; omega))) | (with_reducible refine Below.drew ?_) | (with_reducible refine below_drewN ?_ _) | (refine Below.trans ?_ (Below.mono (by with_reducible assumption) (by (first | omega | (simp; done) | (simp; omega))))))) : Below wd.heap.size wd (wd.drew.alloc (.cells #[.string s] 9)))).trans ((out_gr hgrow).sub (fun q e => hlow q e))
                  go_wp2_with fail
                  have hOg2 : Out (fun q => b5 ≤ q) wd (wf.setCell ⟨b5, 2, none⟩ (.slice (some ⟨gg, 0, none⟩) (n1 + 1) cap)) := (hOg1.sub (fun q hq => by omega)).trans ((out_set wf b5 2 _).sub (fun q hq => by omega))
                  go_roundw
                  case rel =>
                    refine ⟨k + 1, n1 + 1, cap, some ⟨gg, 0, none⟩, xs ++ [s], by go_num, by omega, by omega, Lib.hid (by rw [List.length_append, hxl.out]; rfl), Lib.hid ?_, ?_, ?_, ?_, ?_, Lib.hid ?_, ?_⟩
                    · intro s' hs'
                      rcases List.mem_append.1 hs' with h | h
                      · exact hxs.out s' h
                      · rw [List.mem_singleton.1 h]; exact hs5
                    · exact BY.set_ 2 _
                    · exact BY7.far (by simp; omega) _
                    · refine own_setCell ?_ (by simp; omega) _
                      rw [List.map_append]; exact hown1
                    · exact hdd.1.out hOg2 (fun q hq => by omega)
                    · exact hTd.out hOg2 (fun q hq => Or.inr (by omega))
                    · exact ⟨hOg2.os.trans hOd.os, hOg2.tape.trans hOd.tape, hOg2.output.trans hOd.output, Nat.le_trans hOd.size hOg2.size, fun q hq hs => by
                        have h1 := hOd.block q hq hs
                        rw [← h1]
                        have h3 : Out (fun q => b7 + 1 ≤ q ∨ q = b5) wd (wf.setCell ⟨b5, 2, none⟩ (.slice (some ⟨gg, 0, none⟩) (n1 + 1) cap)) := (hOg1.sub (fun q hq => Or.inl hq)).trans ((out_set wf b5 2 _).sub (fun q hq => Or.inr hq))
                        exact h3.block q (by have := hOd.size; omega) (fun hh => by rcases hh with hh | hh; omega; exact hs (Or.inr hh))⟩
                  case measure => simp [intOf]; omega
            · obtain rfl : k = np := by omega
              have hTS : TS K B g b4 b5 w.heap.size w0 wr ⟨⟨d.t.Id, p.t.Id, xs, d.t.Made, d.t.Ends, d.t.Limit, d.t.Uses⟩, A1, c1⟩ := ⟨by
                  dsimp only
                  rw [hxl.out]; exact R5, ⟨RdIn.own hown (fun q hq => by
                    rcases hq with hq | hq | hq
                    · left; omega
                    · left; omega
                    · left; omega), by dsimp only; rw [hxl.out]; exact own_cap hown, own_max hown, by dsimp only; rw [hxl.out]; omega, hxs.out⟩, hcr, hOr⟩
              clear R5 hown hcr hOr hxl hxs
              obtain ⟨BK5, hT, hcu, hO⟩ := id hTS
              dsimp only at BK5
              have hc5 := BK5.cell; have hf5 := BK5.frozen
              have hl5 := BK5.lt
              go_wp2_with fail
              go_region_law (first | (go_simp; go_at_call 55; refine (spec_l01Below g 9 _ (hcu.below (by (repeat (first | (with_reducible exact Below.refl _ _) | (with_reducible assumption) | ((with_reducible refine Below.setCell ?_ ?_ _); rotate_left; focus (first | omega | (simp; done) | (simp; omega))) | ((with_reducible refine Below.alloc ?_ ?_ _); rotate_left; focus (first | omega | (simp; done) | (simp; omega))) | (with_reducible refine Below.drew ?_) | (with_reducible refine below_drewN ?_ _) | (refine Below.trans ?_ (Below.mono (by with_reducible assumption) (by (first | omega | (simp; done) | (simp; omega))))))))) (by omega)).mono ?_; rintro e wA ⟨y, rfl, hy0, hy1, -, hdA⟩; have hOg : Out (fun q => q = g) wr wA := (Out.trans (Out.of_below (by (repeat (first | (with_reducible exact Below.refl _ _) | (with_reducible assumption) | ((with_reducible refine Below.setCell ?_ ?_ _); rotate_left; focus (first | omega | (simp; done) | (simp; omega))) | ((with_reducible refine Below.alloc ?_ ?_ _); rotate_left; focus (first | omega | (simp; done) | (simp; omega))) | (with_reducible refine Below.drew ?_) | (with_reducible refine below_drewN ?_ _) | (refine Below.trans ?_ (Below.mono (by with_reducible assumption) (by (first | omega | (simp; done) | (simp; omega))))))))) hdA.2); have BA5 := BK5.out hOg (by omega); have BA7 := R7.out hOg (by omega); have hcA5 := BA5.cell; have hfA5 := BA5.frozen; have hcA7 := BA7.cell))
              all_goals
                go_wp2_with fail
                go_meet
                exact ⟨_, ((TS.out hTS hOg hdA.1 (by omega) (by omega))).put (by omega) (by omega) 3 (by omega) _⟩
    · go_wp2_with fail
      go_meet
      exact ⟨_, HT0⟩
  case rest =>
    clear HT0 hA0 HRow HAll
    obtain ⟨d, hTS⟩ := hcut
    obtain ⟨w5, hw5⟩ : ∃ w_, w_ = wc := ⟨_, rfl⟩
    subst hw5
    have hz5 := hTS.2.2.2.size
    go_wp2_with fail
    refine (spec_l01Below g 3 _ hTS.2.2.1 (by omega)).mono ?_
    rintro e w6 ⟨x6, rfl, hx60, hx61, -, hd6⟩
    have hz6 := hd6.size
    replace hTS := TS.out hTS hd6.2 hd6.1 (by omega) (by omega)
    go_upto_if 80 with fail
    go_cut [] (fun wx => ∃ d, TS K B g b4 b5 w.heap.size w0 wx d)
    case first =>
      by_cases hx6 : 0 < x6
      rotate_left
      · go_wp2_with fail
        go_meet
        exact ⟨_, hTS⟩
      obtain ⟨BK5, hT, hcu, hO⟩ := id hTS
      have hc5 := BK5.cell; have hf5 := BK5.frozen
      have hl5 := BK5.lt
      go_wp2_with fail
      go_cut [] (fun wx => ∃ d, TS K B g b4 b5 w.heap.size w0 wx d)
      case first =>
        go_region_law (first | (go_simp; go_at_call 55; refine (spec_l01Below g 80 _ (hcu.below (by (repeat (first | (with_reducible exact Below.refl _ _) | (with_reducible assumption) | ((with_reducible refine Below.setCell ?_ ?_ _); rotate_left; focus (first | omega | (simp; done) | (simp; omega))) | ((with_reducible refine Below.alloc ?_ ?_ _); rotate_left; focus (first | omega | (simp; done) | (simp; omega))) | (with_reducible refine Below.drew ?_) | (with_reducible refine below_drewN ?_ _) | (refine Below.trans ?_ (Below.mono (by with_reducible assumption) (by (first | omega | (simp; done) | (simp; omega))))))))) (by omega)).mono ?_; rintro e wA ⟨y, rfl, hy0, hy1, -, hdA⟩; have hOg : Out (fun q => q = g) w6 wA := (Out.trans (Out.of_below (by (repeat (first | (with_reducible exact Below.refl _ _) | (with_reducible assumption) | ((with_reducible refine Below.setCell ?_ ?_ _); rotate_left; focus (first | omega | (simp; done) | (simp; omega))) | ((with_reducible refine Below.alloc ?_ ?_ _); rotate_left; focus (first | omega | (simp; done) | (simp; omega))) | (with_reducible refine Below.drew ?_) | (with_reducible refine below_drewN ?_ _) | (refine Below.trans ?_ (Below.mono (by with_reducible assumption) (by (first | omega | (simp; done) | (simp; omega))))))))) hdA.2); have BA5 := BK5.out hOg (by omega); have hcA5 := BA5.cell; have hfA5 := BA5.frozen))
        all_goals
          go_wp2_with fail
          go_meet
          exact ⟨_, ((TS.out hTS hOg hdA.1 (by omega) (by omega))).put (by omega) (by omega) 4 (by omega) _⟩
      case rest =>
        clear BK5 hT hcu hO hc5 hf5 hl5 hTS
        obtain ⟨d, hTS⟩ := hcut
        obtain ⟨w7, hw7⟩ : ∃ w_, w_ = wc := ⟨_, rfl⟩
        subst hw7
        go_wp2_with fail
        refine (spec_l01Once g 2 _ hTS.2.2.1 (by omega)).mono ?_
        rintro e w8 ⟨bb, rfl, hd8⟩
        replace hTS := TS.out hTS hd8.2 hd8.1 (by omega) (by omega)
        cases bb
        · go_wp2_with fail
          go_meet
          exact ⟨_, hTS⟩
        obtain ⟨BK5, hT, hcu, hO⟩ := id hTS
        have hc5 := BK5.cell; have hf5 := BK5.frozen
        have hl5 := BK5.lt
        go_wp2_with fail
        go_region_law (first | (go_simp; go_at_call 55; refine (spec_l01Below g 60 _ (hcu.below (by (repeat (first | (with_reducible exact Below.refl _ _) | (with_reducible assumption) | ((with_reducible refine Below.setCell ?_ ?_ _); rotate_left; focus (first | omega | (simp; done) | (simp; omega))) | ((with_reducible refine Below.alloc ?_ ?_ _); rotate_left; focus (first | omega | (simp; done) | (simp; omega))) | (with_reducible refine Below.drew ?_) | (with_reducible refine below_drewN ?_ _) | (refine Below.trans ?_ (Below.mono (by with_reducible assumption) (by (first | omega | (simp; done) | (simp; omega))))))))) (by omega)).mono ?_; rintro e wA ⟨y, rfl, hy0, hy1, -, hdA⟩; have hOg : Out (fun q => q = g) w8 wA := (Out.trans (Out.of_below (by (repeat (first | (with_reducible exact Below.refl _ _) | (with_reducible assumption) | ((with_reducible refine Below.setCell ?_ ?_ _); rotate_left; focus (first | omega | (simp; done) | (simp; omega))) | ((with_reducible refine Below.alloc ?_ ?_ _); rotate_left; focus (first | omega | (simp; done) | (simp; omega))) | (with_reducible refine Below.drew ?_) | (with_reducible refine below_drewN ?_ _) | (refine Below.trans ?_ (Below.mono (by with_reducible assumption) (by (first | omega | (simp; done) | (simp; omega))))))))) hdA.2); have BA5 := BK5.out hOg (by omega); have hcA5 := BA5.cell; have hfA5 := BA5.frozen))
        all_goals
          go_wp2_with fail
          go_meet
          exact ⟨_, ((TS.out hTS hOg hdA.1 (by omega) (by omega))).put (by omega) (by omega) 5 (by omega) _⟩
    case rest =>
      clear hTS
      obtain ⟨d, BK5, hT, hcu, hO⟩ := hcut
      obtain ⟨w7, hw7⟩ : ∃ w_, w_ = wc := ⟨_, rfl⟩
      subst hw7
      have B47 := B45.out hO (by omega)
      have hc5 := BK5.cell; have hf5 := BK5.frozen
      have hc4 := B47.cell; have hf4 := B47.frozen
      have hl4 := B47.lt
      have hOw7 := hOw5.join hO (fun q hq => by rcases hq with h | h; exact Or.inl h; right; omega)
      go_wp2_with fail
      refine bodyPost_ret (v := .agg #[.int .i64 d.t.Id, .int .i64 d.t.Parent, .slice d.A d.t.Names.length d.c, .int .i64 d.t.Made, .int .i64 d.t.Ends, .int .i64 d.t.Limit, .int .i64 d.t.Uses]) (by simp [results, Try.results43, go_sem, hc4, hf4]) rfl ⟨d, rfl, (hT.out (T := fun q => q = b4) (Out.trans (Out.trans (Out.trans (Out.trans (Out.trans (Out.trans (out_set _ _ _ _) (out_set _ _ _ _)) (out_set _ _ _ _)) (out_set _ _ _ _)) (out_set _ _ _ _)) (out_set _ _ _ _)) (out_set _ _ _ _)) (fun q hq => Or.inr (Or.inl hq))).weak (fun q hq => Or.inl (Or.inl hq)) (Nat.le_refl _), hcu.out (S := fun q => q = b4) (Out.trans (Out.trans (Out.trans (Out.trans (Out.trans (Out.trans (out_set _ _ _ _) (out_set _ _ _ _)) (out_set _ _ _ _)) (out_set _ _ _ _)) (out_set _ _ _ _)) (out_set _ _ _ _)) (out_set _ _ _ _)) (fun q hq => by omega), hOw7.join (T := fun q => q = b4) (Out.trans (Out.trans (Out.trans (Out.trans (Out.trans (Out.trans (out_set _ _ _ _) (out_set _ _ _ _)) (out_set _ _ _ _)) (out_set _ _ _ _)) (out_set _ _ _ _)) (out_set _ _ _ _)) (out_set _ _ _ _)) (fun q hq => by right; omega)⟩
end Go.Proofs.Ytcfhnhhgnophhaa

/- A drawn token, bent. A drawn forest. What the draws of the token laws draw. -/
import Derived.Test.YtcfhnhhgnophhaaDrawTok
import Derived.Test.YtcfhnhhgnophhaaCopyTok
set_option linter.unusedSimpArgs false
set_option linter.unusedVariables false
set_option maxRecDepth 20000
namespace Go.Proofs.Ytcfhnhhgnophhaa
open Go.RowKit
variable {B : Nat}
set_option maxHeartbeats 6400000 in
theorem spec_l08BendToken (K g : Nat) (d : TokD) (X : Nat → Prop) (w : World) (hc : Cur B w g) (hT : TIn w X K d) (hX : X g) (hX2 : ∀ q, X q → q < w.heap.size) (hK : K ≤ 1000) :
    Calls Try.prog 45 #[.pointer (some ⟨g, 0, none⟩), .agg #[.int .i64 d.t.Id, .int .i64 d.t.Parent, .slice d.A d.t.Names.length d.c, .int .i64 d.t.Made, .int .i64 d.t.Ends, .int .i64 d.t.Limit, .int .i64 d.t.Uses]] w fun e w' => ∃ d' : TokD, e = .returned (.agg #[.int .i64 d'.t.Id, .int .i64 d'.t.Parent, .slice d'.A d'.t.Names.length d'.c, .int .i64 d'.t.Made, .int .i64 d'.t.Ends, .int .i64 d'.t.Limit, .int .i64 d'.t.Uses]) ∧ TIn w' X (K + 1) d' ∧ Cur B w' g ∧ Out (fun q => q = g) w w' := by
  obtain ⟨i0, hi0, hI0, hI1, hI2⟩ := info_parts info_string
  have hgl := hc.lt
  have hBg := hc.le
  have hTX := hT.weak (X' := fun q => X q ∨ w.heap.size ≤ q) (fun q hq => hq) (Nat.le_refl _)
  clear hT
  have hbA : Below w.heap.size w ((w.alloc (.cells #[.int .i64 d.t.Id, .int .i64 d.t.Parent, .slice d.A d.t.Names.length d.c, .int .i64 d.t.Made, .int .i64 d.t.Ends, .int .i64 d.t.Limit, .int .i64 d.t.Uses] 35)).alloc (.cells #[.int .i64 0, .int .i64 0, .slice none 0 0, .int .i64 0, .int .i64 0, .int .i64 0, .int .i64 0] 35)) := by (repeat (first | (with_reducible exact Below.refl _ _) | (with_reducible assumption) | ((with_reducible refine Below.setCell ?_ ?_ _); rotate_left; focus (first | omega | (simp; done) | (simp; omega))) | ((with_reducible refine Below.alloc ?_ ?_ _); rotate_left; focus (first | omega | (simp; done) | (simp; omega))) | (with_reducible refine Below.drew ?_) | (with_reducible refine below_drewN ?_ _) | (refine Below.trans ?_ (Below.mono (by with_reducible assumption) (by (first | omega | (simp; done) | (simp; omega)))))))
  have B3 : Blk ((w.alloc (.cells #[.int .i64 d.t.Id, .int .i64 d.t.Parent, .slice d.A d.t.Names.length d.c, .int .i64 d.t.Made, .int .i64 d.t.Ends, .int .i64 d.t.Limit, .int .i64 d.t.Uses] 35)).alloc (.cells #[.int .i64 0, .int .i64 0, .slice none 0 0, .int .i64 0, .int .i64 0, .int .i64 0, .int .i64 0] 35)) w.heap.size 35 #[.int .i64 d.t.Id, .int .i64 d.t.Parent, .slice d.A d.t.Names.length d.c, .int .i64 d.t.Made, .int .i64 d.t.Ends, .int .i64 d.t.Limit, .int .i64 d.t.Uses] := (Blk.new' rfl).alloc _
  have B4 : Blk ((w.alloc (.cells #[.int .i64 d.t.Id, .int .i64 d.t.Parent, .slice d.A d.t.Names.length d.c, .int .i64 d.t.Made, .int .i64 d.t.Ends, .int .i64 d.t.Limit, .int .i64 d.t.Uses] 35)).alloc (.cells #[.int .i64 0, .int .i64 0, .slice none 0 0, .int .i64 0, .int .i64 0, .int .i64 0, .int .i64 0] 35)) (w.heap.size + 1) 35 #[.int .i64 0, .int .i64 0, .slice none 0 0, .int .i64 0, .int .i64 0, .int .i64 0, .int .i64 0] := Blk.new' (by simp)
  have HsA : Hid (w.heap.size + 2 = ((w.alloc (.cells #[.int .i64 d.t.Id, .int .i64 d.t.Parent, .slice d.A d.t.Names.length d.c, .int .i64 d.t.Made, .int .i64 d.t.Ends, .int .i64 d.t.Limit, .int .i64 d.t.Uses] 35)).alloc (.cells #[.int .i64 0, .int .i64 0, .slice none 0 0, .int .i64 0, .int .i64 0, .int .i64 0, .int .i64 0] 35)).heap.size) := Lib.hid (by simp)
  have hcA := hc.below hbA
  have hTA := hTX.keep hbA
  go_enter Try.func45, Try.ntmps45
  go_wp2_with fail
  generalize ((w.alloc (.cells #[.int .i64 d.t.Id, .int .i64 d.t.Parent, .slice d.A d.t.Names.length d.c, .int .i64 d.t.Made, .int .i64 d.t.Ends, .int .i64 d.t.Limit, .int .i64 d.t.Uses] 35)).alloc (.cells #[.int .i64 0, .int .i64 0, .slice none 0 0, .int .i64 0, .int .i64 0, .int .i64 0, .int .i64 0] 35)) = wa at *
  have hsA := HsA.out
  obtain ⟨b4, hb4⟩ : ∃ b4, b4 = w.heap.size + 1 := ⟨_, rfl⟩
  obtain ⟨b3, hb3⟩ : ∃ b3, b3 = w.heap.size := ⟨_, rfl⟩
  rw [← hb4] at B4 ⊢
  have hOA := Out.of_below (S := fun q => q = g) hbA
  have hgb : g < b3 := by omega
  have hb34 : b3 < b4 := by omega
  have hwb : w.heap.size ≤ b3 := by omega
  have hba : b4 < wa.heap.size := by omega
  rw [← hb3] at B3 ⊢
  clear hb4 hb3 HsA hbA hTX
  refine (spec_l01Below g 8 _ hcA (by omega)).mono ?_
  rintro e w1 ⟨x, rfl, hx0, hx1, -, hd1⟩
  have hx := hx1 (by omega)
  have hs1 := hd1.size
  have hO1 := hOA.trans hd1.2
  have B31 := B3.out hd1.2 (by omega)
  have B41 := B4.out hd1.2 (by omega)
  have hT1 := hTA.out hd1.2 (fun q hq => Or.inl (by rw [hq]; exact hX))
  have hcu := hd1.1
  have hc3 := B31.cell; have hf3 := B31.frozen; have hl3 := B31.lt
  clear hcA hTA B3 B4 hOA hd1
  by_cases e0 : x = 0
  · subst e0
    go_wp2_with fail
    refine (spec_pickLit g w1 [0, 1000000000, 1000000001, 1] hcu (by simp) (by simp)).mono ?_
    rintro e wA ⟨v, rfl, -, hcA, hOA, hsA⟩
    have BA3 := B31.out hOA (by omega)
    have BA4 := (B41.out hOA (by omega)).far (p := ⟨b3, 0, none⟩) (by simp; omega) (.int .i64 v)
    have hTz := ((hT1.out hOA (fun q hq => Or.inl (by rw [hq]; exact hX))).out (out_set wA b3 0 (.int .i64 v)) (fun q hq => Or.inr (by omega)))
    have hOz := (hO1.trans hOA).join (out_set wA b3 0 (.int .i64 v)) (fun q hq => by right; omega)
    have hcz := hcA.out (out_set wA b3 0 (.int .i64 v)) (fun q hq => by omega)
    have hB3 := BA3.set_ 0 (.int .i64 v)
    clear hc3 hf3 hl3
    have hcz3 := hB3.cell; have hfz3 := BA3.frozen; have hc3 := BA3.cell; have hc4 := BA4.cell; have hf4 := BA4.frozen
    have hl4 : b4 < wA.heap.size := by omega
    go_wp2_with fail
    refine bodyPost_ret (v := .agg #[.int .i64 (d.put 0 v).t.Id, .int .i64 (d.put 0 v).t.Parent, .slice (d.put 0 v).A (d.put 0 v).t.Names.length (d.put 0 v).c, .int .i64 (d.put 0 v).t.Made, .int .i64 (d.put 0 v).t.Ends, .int .i64 (d.put 0 v).t.Limit, .int .i64 (d.put 0 v).t.Uses]) (by simp [TokD.put, results, Try.results45, go_sem, hc4, hf4]) rfl ⟨(d.put 0 v), rfl, ((hTz.ints _ _ _ _ _ _ : TIn _ _ K (d.put 0 v)).out (T := fun q => q = b4) (Out.trans (Out.trans (Out.trans (Out.trans (Out.trans (Out.trans (out_set _ _ _ _) (out_set _ _ _ _)) (out_set _ _ _ _)) (out_set _ _ _ _)) (out_set _ _ _ _)) (out_set _ _ _ _)) (out_set _ _ _ _)) (fun q hq => by first | exact Or.inr (by omega) | exact Or.inr (Or.inr hq))).weak (fun q hq => Or.inl (Or.inl hq)) (by omega), hcz.out (S := fun q => q = b4) (Out.trans (Out.trans (Out.trans (Out.trans (Out.trans (Out.trans (out_set _ _ _ _) (out_set _ _ _ _)) (out_set _ _ _ _)) (out_set _ _ _ _)) (out_set _ _ _ _)) (out_set _ _ _ _)) (out_set _ _ _ _)) (fun q hq => by omega), hOz.join (T := fun q => q = b4) (Out.trans (Out.trans (Out.trans (Out.trans (Out.trans (Out.trans (out_set _ _ _ _) (out_set _ _ _ _)) (out_set _ _ _ _)) (out_set _ _ _ _)) (out_set _ _ _ _)) (out_set _ _ _ _)) (out_set _ _ _ _)) (fun q hq => by right; omega)⟩
  by_cases e1 : x = 1
  · subst e1
    go_wp2_with fail
    refine (spec_pickLit g w1 [-1, d.t.Id, 1, 2] hcu (by simp) (by simp)).mono ?_
    rintro e wA ⟨v, rfl, -, hcA, hOA, hsA⟩
    have BA3 := B31.out hOA (by omega)
    have BA4 := (B41.out hOA (by omega)).far (p := ⟨b3, 1, none⟩) (by simp; omega) (.int .i64 v)
    have hTz := ((hT1.out hOA (fun q hq => Or.inl (by rw [hq]; exact hX))).out (out_set wA b3 1 (.int .i64 v)) (fun q hq => Or.inr (by omega)))
    have hOz := (hO1.trans hOA).join (out_set wA b3 1 (.int .i64 v)) (fun q hq => by right; omega)
    have hcz := hcA.out (out_set wA b3 1 (.int .i64 v)) (fun q hq => by omega)
    have hB3 := BA3.set_ 1 (.int .i64 v)
    clear hc3 hf3 hl3
    have hcz3 := hB3.cell; have hfz3 := BA3.frozen; have hc3 := BA3.cell; have hc4 := BA4.cell; have hf4 := BA4.frozen
    have hl4 : b4 < wA.heap.size := by omega
    go_wp2_with fail
    refine bodyPost_ret (v := .agg #[.int .i64 (d.put 1 v).t.Id, .int .i64 (d.put 1 v).t.Parent, .slice (d.put 1 v).A (d.put 1 v).t.Names.length (d.put 1 v).c, .int .i64 (d.put 1 v).t.Made, .int .i64 (d.put 1 v).t.Ends, .int .i64 (d.put 1 v).t.Limit, .int .i64 (d.put 1 v).t.Uses]) (by simp [TokD.put, results, Try.results45, go_sem, hc4, hf4]) rfl ⟨(d.put 1 v), rfl, ((hTz.ints _ _ _ _ _ _ : TIn _ _ K (d.put 1 v)).out (T := fun q => q = b4) (Out.trans (Out.trans (Out.trans (Out.trans (Out.trans (Out.trans (out_set _ _ _ _) (out_set _ _ _ _)) (out_set _ _ _ _)) (out_set _ _ _ _)) (out_set _ _ _ _)) (out_set _ _ _ _)) (out_set _ _ _ _)) (fun q hq => by first | exact Or.inr (by omega) | exact Or.inr (Or.inr hq))).weak (fun q hq => Or.inl (Or.inl hq)) (by omega), hcz.out (S := fun q => q = b4) (Out.trans (Out.trans (Out.trans (Out.trans (Out.trans (Out.trans (out_set _ _ _ _) (out_set _ _ _ _)) (out_set _ _ _ _)) (out_set _ _ _ _)) (out_set _ _ _ _)) (out_set _ _ _ _)) (out_set _ _ _ _)) (fun q hq => by omega), hOz.join (T := fun q => q = b4) (Out.trans (Out.trans (Out.trans (Out.trans (Out.trans (Out.trans (out_set _ _ _ _) (out_set _ _ _ _)) (out_set _ _ _ _)) (out_set _ _ _ _)) (out_set _ _ _ _)) (out_set _ _ _ _)) (out_set _ _ _ _)) (fun q hq => by right; omega)⟩
  by_cases e2 : x = 2
  · subst e2
    go_wp2_with fail
    refine (spec_pickLit g w1 [-1, 1000000000, 1000000001] hcu (by simp) (by simp)).mono ?_
    rintro e wA ⟨v, rfl, -, hcA, hOA, hsA⟩
    have BA3 := B31.out hOA (by omega)
    have BA4 := (B41.out hOA (by omega)).far (p := ⟨b3, 3, none⟩) (by simp; omega) (.int .i64 v)
    have hTz := ((hT1.out hOA (fun q hq => Or.inl (by rw [hq]; exact hX))).out (out_set wA b3 3 (.int .i64 v)) (fun q hq => Or.inr (by omega)))
    have hOz := (hO1.trans hOA).join (out_set wA b3 3 (.int .i64 v)) (fun q hq => by right; omega)
    have hcz := hcA.out (out_set wA b3 3 (.int .i64 v)) (fun q hq => by omega)
    have hB3 := BA3.set_ 3 (.int .i64 v)
    clear hc3 hf3 hl3
    have hcz3 := hB3.cell; have hfz3 := BA3.frozen; have hc3 := BA3.cell; have hc4 := BA4.cell; have hf4 := BA4.frozen
    have hl4 : b4 < wA.heap.size := by omega
    go_wp2_with fail
    refine bodyPost_ret (v := .agg #[.int .i64 (d.put 3 v).t.Id, .int .i64 (d.put 3 v).t.Parent, .slice (d.put 3 v).A (d.put 3 v).t.Names.length (d.put 3 v).c, .int .i64 (d.put 3 v).t.Made, .int .i64 (d.put 3 v).t.Ends, .int .i64 (d.put 3 v).t.Limit, .int .i64 (d.put 3 v).t.Uses]) (by simp [TokD.put, results, Try.results45, go_sem, hc4, hf4]) rfl ⟨(d.put 3 v), rfl, ((hTz.ints _ _ _ _ _ _ : TIn _ _ K (d.put 3 v)).out (T := fun q => q = b4) (Out.trans (Out.trans (Out.trans (Out.trans (Out.trans (Out.trans (out_set _ _ _ _) (out_set _ _ _ _)) (out_set _ _ _ _)) (out_set _ _ _ _)) (out_set _ _ _ _)) (out_set _ _ _ _)) (out_set _ _ _ _)) (fun q hq => by first | exact Or.inr (by omega) | exact Or.inr (Or.inr hq))).weak (fun q hq => Or.inl (Or.inl hq)) (by omega), hcz.out (S := fun q => q = b4) (Out.trans (Out.trans (Out.trans (Out.trans (Out.trans (Out.trans (out_set _ _ _ _) (out_set _ _ _ _)) (out_set _ _ _ _)) (out_set _ _ _ _)) (out_set _ _ _ _)) (out_set _ _ _ _)) (out_set _ _ _ _)) (fun q hq => by omega), hOz.join (T := fun q => q = b4) (Out.trans (Out.trans (Out.trans (Out.trans (Out.trans (Out.trans (out_set _ _ _ _) (out_set _ _ _ _)) (out_set _ _ _ _)) (out_set _ _ _ _)) (out_set _ _ _ _)) (out_set _ _ _ _)) (out_set _ _ _ _)) (fun q hq => by right; omega)⟩
  by_cases e3 : x = 3
  · subst e3
    go_wp2_with fail
    refine (spec_pickLit g w1 [d.t.Made, 1000000001, -1] hcu (by simp) (by simp)).mono ?_
    rintro e wA ⟨v, rfl, -, hcA, hOA, hsA⟩
    have BA3 := B31.out hOA (by omega)
    have BA4 := (B41.out hOA (by omega)).far (p := ⟨b3, 4, none⟩) (by simp; omega) (.int .i64 v)
    have hTz := ((hT1.out hOA (fun q hq => Or.inl (by rw [hq]; exact hX))).out (out_set wA b3 4 (.int .i64 v)) (fun q hq => Or.inr (by omega)))
    have hOz := (hO1.trans hOA).join (out_set wA b3 4 (.int .i64 v)) (fun q hq => by right; omega)
    have hcz := hcA.out (out_set wA b3 4 (.int .i64 v)) (fun q hq => by omega)
    have hB3 := BA3.set_ 4 (.int .i64 v)
    clear hc3 hf3 hl3
    have hcz3 := hB3.cell; have hfz3 := BA3.frozen; have hc3 := BA3.cell; have hc4 := BA4.cell; have hf4 := BA4.frozen
    have hl4 : b4 < wA.heap.size := by omega
    go_wp2_with fail
    refine bodyPost_ret (v := .agg #[.int .i64 (d.put 4 v).t.Id, .int .i64 (d.put 4 v).t.Parent, .slice (d.put 4 v).A (d.put 4 v).t.Names.length (d.put 4 v).c, .int .i64 (d.put 4 v).t.Made, .int .i64 (d.put 4 v).t.Ends, .int .i64 (d.put 4 v).t.Limit, .int .i64 (d.put 4 v).t.Uses]) (by simp [TokD.put, results, Try.results45, go_sem, hc4, hf4]) rfl ⟨(d.put 4 v), rfl, ((hTz.ints _ _ _ _ _ _ : TIn _ _ K (d.put 4 v)).out (T := fun q => q = b4) (Out.trans (Out.trans (Out.trans (Out.trans (Out.trans (Out.trans (out_set _ _ _ _) (out_set _ _ _ _)) (out_set _ _ _ _)) (out_set _ _ _ _)) (out_set _ _ _ _)) (out_set _ _ _ _)) (out_set _ _ _ _)) (fun q hq => by first | exact Or.inr (by omega) | exact Or.inr (Or.inr hq))).weak (fun q hq => Or.inl (Or.inl hq)) (by omega), hcz.out (S := fun q => q = b4) (Out.trans (Out.trans (Out.trans (Out.trans (Out.trans (Out.trans (out_set _ _ _ _) (out_set _ _ _ _)) (out_set _ _ _ _)) (out_set _ _ _ _)) (out_set _ _ _ _)) (out_set _ _ _ _)) (out_set _ _ _ _)) (fun q hq => by omega), hOz.join (T := fun q => q = b4) (Out.trans (Out.trans (Out.trans (Out.trans (Out.trans (Out.trans (out_set _ _ _ _) (out_set _ _ _ _)) (out_set _ _ _ _)) (out_set _ _ _ _)) (out_set _ _ _ _)) (out_set _ _ _ _)) (out_set _ _ _ _)) (fun q hq => by right; omega)⟩
  by_cases e4 : x = 4
  · subst e4
    go_wp2_with fail
    refine (spec_pickLit g w1 [wrap64 (d.t.Ends - 1), d.t.Ends, 1000000001] hcu (by simp) (by simp)).mono ?_
    rintro e wA ⟨v, rfl, -, hcA, hOA, hsA⟩
    have BA3 := B31.out hOA (by omega)
    have BA4 := (B41.out hOA (by omega)).far (p := ⟨b3, 5, none⟩) (by simp; omega) (.int .i64 v)
    have hTz := ((hT1.out hOA (fun q hq => Or.inl (by rw [hq]; exact hX))).out (out_set wA b3 5 (.int .i64 v)) (fun q hq => Or.inr (by omega)))
    have hOz := (hO1.trans hOA).join (out_set wA b3 5 (.int .i64 v)) (fun q hq => by right; omega)
    have hcz := hcA.out (out_set wA b3 5 (.int .i64 v)) (fun q hq => by omega)
    have hB3 := BA3.set_ 5 (.int .i64 v)
    clear hc3 hf3 hl3
    have hcz3 := hB3.cell; have hfz3 := BA3.frozen; have hc3 := BA3.cell; have hc4 := BA4.cell; have hf4 := BA4.frozen
    have hl4 : b4 < wA.heap.size := by omega
    go_wp2_with fail
    refine bodyPost_ret (v := .agg #[.int .i64 (d.put 5 v).t.Id, .int .i64 (d.put 5 v).t.Parent, .slice (d.put 5 v).A (d.put 5 v).t.Names.length (d.put 5 v).c, .int .i64 (d.put 5 v).t.Made, .int .i64 (d.put 5 v).t.Ends, .int .i64 (d.put 5 v).t.Limit, .int .i64 (d.put 5 v).t.Uses]) (by simp [TokD.put, results, Try.results45, go_sem, hc4, hf4]) rfl ⟨(d.put 5 v), rfl, ((hTz.ints _ _ _ _ _ _ : TIn _ _ K (d.put 5 v)).out (T := fun q => q = b4) (Out.trans (Out.trans (Out.trans (Out.trans (Out.trans (Out.trans (out_set _ _ _ _) (out_set _ _ _ _)) (out_set _ _ _ _)) (out_set _ _ _ _)) (out_set _ _ _ _)) (out_set _ _ _ _)) (out_set _ _ _ _)) (fun q hq => by first | exact Or.inr (by omega) | exact Or.inr (Or.inr hq))).weak (fun q hq => Or.inl (Or.inl hq)) (by omega), hcz.out (S := fun q => q = b4) (Out.trans (Out.trans (Out.trans (Out.trans (Out.trans (Out.trans (out_set _ _ _ _) (out_set _ _ _ _)) (out_set _ _ _ _)) (out_set _ _ _ _)) (out_set _ _ _ _)) (out_set _ _ _ _)) (out_set _ _ _ _)) (fun q hq => by omega), hOz.join (T := fun q => q = b4) (Out.trans (Out.trans (Out.trans (Out.trans (Out.trans (Out.trans (out_set _ _ _ _) (out_set _ _ _ _)) (out_set _ _ _ _)) (out_set _ _ _ _)) (out_set _ _ _ _)) (out_set _ _ _ _)) (out_set _ _ _ _)) (fun q hq => by right; omega)⟩
  by_cases e5 : x = 5
  · subst e5
    go_wp2_with fail
    refine (spec_pickLit g w1 [-1, 1000, 1001] hcu (by simp) (by simp)).mono ?_
    rintro e wA ⟨v, rfl, -, hcA, hOA, hsA⟩
    have BA3 := B31.out hOA (by omega)
    have BA4 := (B41.out hOA (by omega)).far (p := ⟨b3, 6, none⟩) (by simp; omega) (.int .i64 v)
    have hTz := ((hT1.out hOA (fun q hq => Or.inl (by rw [hq]; exact hX))).out (out_set wA b3 6 (.int .i64 v)) (fun q hq => Or.inr (by omega)))
    have hOz := (hO1.trans hOA).join (out_set wA b3 6 (.int .i64 v)) (fun q hq => by right; omega)
    have hcz := hcA.out (out_set wA b3 6 (.int .i64 v)) (fun q hq => by omega)
    have hB3 := BA3.set_ 6 (.int .i64 v)
    clear hc3 hf3 hl3
    have hcz3 := hB3.cell; have hfz3 := BA3.frozen; have hc3 := BA3.cell; have hc4 := BA4.cell; have hf4 := BA4.frozen
    have hl4 : b4 < wA.heap.size := by omega
    go_wp2_with fail
    refine bodyPost_ret (v := .agg #[.int .i64 (d.put 6 v).t.Id, .int .i64 (d.put 6 v).t.Parent, .slice (d.put 6 v).A (d.put 6 v).t.Names.length (d.put 6 v).c, .int .i64 (d.put 6 v).t.Made, .int .i64 (d.put 6 v).t.Ends, .int .i64 (d.put 6 v).t.Limit, .int .i64 (d.put 6 v).t.Uses]) (by simp [TokD.put, results, Try.results45, go_sem, hc4, hf4]) rfl ⟨(d.put 6 v), rfl, ((hTz.ints _ _ _ _ _ _ : TIn _ _ K (d.put 6 v)).out (T := fun q => q = b4) (Out.trans (Out.trans (Out.trans (Out.trans (Out.trans (Out.trans (out_set _ _ _ _) (out_set _ _ _ _)) (out_set _ _ _ _)) (out_set _ _ _ _)) (out_set _ _ _ _)) (out_set _ _ _ _)) (out_set _ _ _ _)) (fun q hq => by first | exact Or.inr (by omega) | exact Or.inr (Or.inr hq))).weak (fun q hq => Or.inl (Or.inl hq)) (by omega), hcz.out (S := fun q => q = b4) (Out.trans (Out.trans (Out.trans (Out.trans (Out.trans (Out.trans (out_set _ _ _ _) (out_set _ _ _ _)) (out_set _ _ _ _)) (out_set _ _ _ _)) (out_set _ _ _ _)) (out_set _ _ _ _)) (out_set _ _ _ _)) (fun q hq => by omega), hOz.join (T := fun q => q = b4) (Out.trans (Out.trans (Out.trans (Out.trans (Out.trans (Out.trans (out_set _ _ _ _) (out_set _ _ _ _)) (out_set _ _ _ _)) (out_set _ _ _ _)) (out_set _ _ _ _)) (out_set _ _ _ _)) (out_set _ _ _ _)) (fun q hq => by right; omega)⟩
  by_cases e7 : x = 7
  · subst e7
    have BA4 := B41.far (p := ⟨b3, 4, none⟩) (by simp; omega) (.int .i64 0)
    have hTz := hT1.out (out_set w1 b3 4 (.int .i64 0)) (fun q hq => Or.inr (by omega))
    have hOz := hO1.join (out_set w1 b3 4 (.int .i64 0)) (fun q hq => by right; omega)
    have hcz := hcu.out (out_set w1 b3 4 (.int .i64 0)) (fun q hq => by omega)
    have hB3 := B31.set_ 4 (.int .i64 0)
    have hcz3 := hB3.cell; have hc4 := BA4.cell; have hf4 := BA4.frozen
    have hl4 : b4 < w1.heap.size := by omega
    go_wp2_with fail
    refine bodyPost_ret (v := .agg #[.int .i64 (d.put 4 0).t.Id, .int .i64 (d.put 4 0).t.Parent, .slice (d.put 4 0).A (d.put 4 0).t.Names.length (d.put 4 0).c, .int .i64 (d.put 4 0).t.Made, .int .i64 (d.put 4 0).t.Ends, .int .i64 (d.put 4 0).t.Limit, .int .i64 (d.put 4 0).t.Uses]) (by simp [TokD.put, results, Try.results45, go_sem, hc4, hf4]) rfl ⟨(d.put 4 0), rfl, ((hTz.ints _ _ _ _ _ _ : TIn _ _ K (d.put 4 0)).out (T := fun q => q = b4) (Out.trans (Out.trans (Out.trans (Out.trans (Out.trans (Out.trans (out_set _ _ _ _) (out_set _ _ _ _)) (out_set _ _ _ _)) (out_set _ _ _ _)) (out_set _ _ _ _)) (out_set _ _ _ _)) (out_set _ _ _ _)) (fun q hq => by first | exact Or.inr (by omega) | exact Or.inr (Or.inr hq))).weak (fun q hq => Or.inl (Or.inl hq)) (by omega), hcz.out (S := fun q => q = b4) (Out.trans (Out.trans (Out.trans (Out.trans (Out.trans (Out.trans (out_set _ _ _ _) (out_set _ _ _ _)) (out_set _ _ _ _)) (out_set _ _ _ _)) (out_set _ _ _ _)) (out_set _ _ _ _)) (out_set _ _ _ _)) (fun q hq => by omega), hOz.join (T := fun q => q = b4) (Out.trans (Out.trans (Out.trans (Out.trans (Out.trans (Out.trans (out_set _ _ _ _) (out_set _ _ _ _)) (out_set _ _ _ _)) (out_set _ _ _ _)) (out_set _ _ _ _)) (out_set _ _ _ _)) (out_set _ _ _ _)) (fun q hq => by right; omega)⟩
  obtain rfl : x = 6 := by omega
  go_wp2_with fail
  refine (spec_l08Texts d.A d.c d.t.Names w1 hT1.rd.1 (by have := hT1.few; omega)).mono ?_
  rintro e wA ⟨A1, c1, rfl, hon, hbA⟩
  have hsA := hbA.size
  have BA3 := B31.keep hbA; have BA4 := B41.keep hbA
  have hcA := hcu.below hbA
  have hsh := hT1.short; have hfew := hT1.few
  have hOA := hO1.trans (Out.of_below (S := fun q => q = g) hbA)
  clear hT1
  obtain ⟨xs, hxs⟩ : ∃ xs, d.t.Names = xs := ⟨_, rfl⟩
  rw [hxs] at hon hsh hfew BA3 B31
  obtain ⟨n, hn⟩ : ∃ n, xs.length = n := ⟨_, rfl⟩
  rw [hxs, hn]
  rw [hn] at hon hfew BA3 B31
  have Hn := Lib.hid hn
  have Hsh := Lib.hid hsh
  clear hc3 hf3 hl3 hn hsh hxs
  have hc3 := BA3.cell; have hf3 := BA3.frozen
  have hlowA : ∀ q, (Value.slice A1 n c1).ownBlock = some q → w1.heap.size ≤ q := fun q e => (hon.lt q e).1
  have hneA : ∀ q, q < w1.heap.size → some q ≠ (Value.slice A1 n c1).ownBlock := fun q hq e => by have := hlowA q e.symm; omega
  go_wp2_with (first | (at_builtin; go_loud (refine wpList_append_own_at _ rfl _ _ 33 rfl (w1.heap.size) 9 i0 (.string ⟨#[]⟩) 1 16 Try.underlying33 hi0 hI0 hI1 hI2 rfl (by decide) _ _ _ rfl (hon.alloc _) ⟨wA.heap.size, 0, none⟩ 1 1 [.string ⟨#[122, 122]⟩] rfl rfl ?c1 ?c2 ?c3 ?c4 ?c5 ?_; (case c1 => exact cell_one_new _ _ _); (case c2 => simp [Value.oneCell']); (case c3 => (simp only [maxLen]; omega)); (case c4 => omega); (case c5 => (simp; omega)); intro v' wf hown1 hgrow hnil hat; obtain ⟨gg, cap, rfl, hg1, hg2⟩ := hown1.form (by omega); have BY3 := Blk.grown (BA3.alloc (.cells #[.string ⟨#[122, 122]⟩] 9)) hgrow (hneA _ (by omega)); have BY4 := (Blk.grown (BA4.alloc (.cells #[.string ⟨#[122, 122]⟩] 9)) hgrow (hneA _ (by omega))).far (p := ⟨b3, 2, none⟩) (by simp; omega) (.slice (some ⟨gg, 0, none⟩) (n + 1) cap); have hB3 := BY3.set_ 2 (.slice (some ⟨gg, 0, none⟩) (n + 1) cap); have hcY3 := BY3.cell; have hfY3 := BY3.frozen; have hcz3 := hB3.cell; have hc4 := BY4.cell; have hf4 := BY4.frozen; have hl4 : b4 < wf.heap.size := (by have h := hgrow.size; simp at h; omega))))
  all_goals
    have hl1 : (xs ++ [(⟨#[122, 122]⟩ : ByteArray)]).length = n + 1 := by rw [List.length_append, Hn.out]; rfl
    have hgs : wA.heap.size + 1 ≤ wf.heap.size := by simpa using hgrow.size
    have hTz : TIn (wf.setCell ⟨b3, 2, none⟩ (.slice (some ⟨gg, 0, none⟩) (n + 1) cap)) (fun q => X q ∨ q = b3 ∨ q = b4) (K + 1) ⟨⟨d.t.Id, d.t.Parent, xs ++ [(⟨#[122, 122]⟩ : ByteArray)], d.t.Made, d.t.Ends, d.t.Limit, d.t.Uses⟩, some ⟨gg, 0, none⟩, cap⟩ := ⟨by
        refine RdIn.own (base := w1.heap.size) (n := n + 1) (c := cap) (size := 1) (e := 9) (own_setCell (by rw [List.map_append]; exact hown1) (by simp; omega) _) (fun q hq => ?_)
        left
        rcases hq with hq | hq | hq
        · have := hX2 q hq; omega
        · omega
        · omega, by dsimp only; rw [hl1]; exact own_cap hown1, own_max hown1, by dsimp only; rw [hl1]; omega, fun s hs => by
        rcases List.mem_append.1 hs with h | h
        · exact Hsh.out s h
        · rw [List.mem_singleton.1 h]; decide⟩
    have hOz : Out (fun q => q = g) w (wf.setCell ⟨b3, 2, none⟩ (.slice (some ⟨gg, 0, none⟩) (n + 1) cap)) := (Out.growR (hOA.alloc _) hgrow (fun q e => by have := hlowA q e; omega)).join (out_set wf b3 2 _) (fun q hq => by right; omega)
    have hcz : Cur B (wf.setCell ⟨b3, 2, none⟩ (.slice (some ⟨gg, 0, none⟩) (n + 1) cap)) g := ((hcA.below ((Below.refl _ wA).alloc (Nat.le_refl _) (.cells #[.string ⟨#[122, 122]⟩] 9))).out (out_gr hgrow) (fun q e => by have := hlowA q e; omega)).out (out_set wf b3 2 _) (fun q hq => by omega)
    generalize xs ++ [(⟨#[122, 122]⟩ : ByteArray)] = ys at *
    go_wp2_with fail
    refine bodyPost_ret (v := .agg #[.int .i64 d.t.Id, .int .i64 d.t.Parent, .slice (some ⟨gg, 0, none⟩) (n + 1) cap, .int .i64 d.t.Made, .int .i64 d.t.Ends, .int .i64 d.t.Limit, .int .i64 d.t.Uses]) (by simp [results, Try.results45, go_sem, hc4, hf4]) rfl ⟨⟨⟨d.t.Id, d.t.Parent, ys, d.t.Made, d.t.Ends, d.t.Limit, d.t.Uses⟩, some ⟨gg, 0, none⟩, cap⟩, by rw [hl1], (hTz.out (T := fun q => q = b4) (Out.trans (Out.trans (Out.trans (Out.trans (Out.trans (Out.trans (out_set _ _ _ _) (out_set _ _ _ _)) (out_set _ _ _ _)) (out_set _ _ _ _)) (out_set _ _ _ _)) (out_set _ _ _ _)) (out_set _ _ _ _)) (fun q hq => Or.inr (Or.inr hq))).weak (fun q hq => Or.inl (Or.inl hq)) (Nat.le_refl _), hcz.out (S := fun q => q = b4) (Out.trans (Out.trans (Out.trans (Out.trans (Out.trans (Out.trans (out_set _ _ _ _) (out_set _ _ _ _)) (out_set _ _ _ _)) (out_set _ _ _ _)) (out_set _ _ _ _)) (out_set _ _ _ _)) (out_set _ _ _ _)) (fun q hq => by omega), hOz.join (T := fun q => q = b4) (Out.trans (Out.trans (Out.trans (Out.trans (Out.trans (Out.trans (out_set _ _ _ _) (out_set _ _ _ _)) (out_set _ _ _ _)) (out_set _ _ _ _)) (out_set _ _ _ _)) (out_set _ _ _ _)) (out_set _ _ _ _)) (fun q hq => by right; omega)⟩
end Go.Proofs.Ytcfhnhhgnophhaa
namespace Go.Proofs.Ytcfhnhhgnophhaa
open Go.RowKit
variable {B : Nat}
theorem flat_put {ds : List TokD} {i : Nat} {d : TokD} (h : ds[i]? = some d) (d' : TokD) : ((((((((ds.flatMap TokD.cells).set (i * 7) (.int .i64 d'.t.Id)).set (i * 7 + 1) (.int .i64 d'.t.Parent)).set (i * 7 + 2) (.slice d'.A d'.t.Names.length d'.c)).set (i * 7 + 3) (.int .i64 d'.t.Made)).set (i * 7 + 4) (.int .i64 d'.t.Ends)).set (i * 7 + 5) (.int .i64 d'.t.Limit)).set (i * 7 + 6) (.int .i64 d'.t.Uses)) = (ds.set i d').flatMap TokD.cells := by
  obtain ⟨hi, rfl⟩ := List.getElem?_eq_some_iff.1 h
  obtain ⟨l1, l2, e, hl⟩ : ∃ l1 l2, ds = l1 ++ ds[i] :: l2 ∧ l1.length = i := ⟨ds.take i, ds.drop (i + 1), by rw [← List.drop_eq_getElem_cons hi, List.take_append_drop], by rw [List.length_take]; omega⟩
  have hs : ds.set i d' = l1 ++ d' :: l2 := by
    conv => lhs; rw [e]
    rw [List.set_append_right _ _ (by omega), hl, Nat.sub_self]
    rfl
  have hf : (l1.flatMap TokD.cells).length = i * 7 := by rw [flat_length TokD.cells 7 TokD.len, hl]
  rw [hs]
  conv => lhs; rw [e]
  generalize ds[i] = d
  rw [List.flatMap_append, List.flatMap_append, List.flatMap_cons, List.flatMap_cons]
  generalize l1.flatMap TokD.cells = a at hf
  generalize l2.flatMap TokD.cells = b
  generalize i * 7 = o at hf ⊢
  subst hf
  simp only [TokD.cells, List.cons_append, List.nil_append]
  rw [List.set_append_right _ _ (by omega), Nat.sub_self]
  rw [List.set_append_right _ _ (by omega), List.set_append_right _ _ (by omega), List.set_append_right _ _ (by omega), List.set_append_right _ _ (by omega), List.set_append_right _ _ (by omega), List.set_append_right _ _ (by omega)]
  simp only [Nat.add_sub_cancel_left]
  rfl
/-- Seven stores into an element of a row. -/
theorem own_put {w : World} {base g n cap i : Nat} {e : TypeId} {ds : List TokD} {d : TokD} (h : w.ownsRow base e 7 (.slice (some ⟨g, 0, none⟩) n cap) n (ds.flatMap TokD.cells)) (hd : ds[i]? = some d) (d' : TokD) :
    World.ownsRow (((((((w.setCell ⟨g, i * 7, none⟩ (.int .i64 d'.t.Id)).setCell ⟨g, i * 7 + 1, none⟩ (.int .i64 d'.t.Parent)).setCell ⟨g, i * 7 + 2, none⟩ (.slice d'.A d'.t.Names.length d'.c)).setCell ⟨g, i * 7 + 3, none⟩ (.int .i64 d'.t.Made)).setCell ⟨g, i * 7 + 4, none⟩ (.int .i64 d'.t.Ends)).setCell ⟨g, i * 7 + 5, none⟩ (.int .i64 d'.t.Limit)).setCell ⟨g, i * 7 + 6, none⟩ (.int .i64 d'.t.Uses)) base e 7 (.slice (some ⟨g, 0, none⟩) n cap) n ((ds.set i d').flatMap TokD.cells) := by
  rw [← flat_put hd d']
  exact ((((((((h.stored _ _).1).stored _ _).1.stored _ _).1.stored _ _).1.stored _ _).1.stored _ _).1.stored _ _).1
-- FROMHERE
set_option maxHeartbeats 6400000 in
theorem spec_l08DrawForest (g N : Nat) (w : World) (hc : Cur B w g) (hN : N ≤ 121) :
    Calls Try.prog 57 #[.pointer (some ⟨g, 0, none⟩), .int .i64 N] w fun e w' => ∃ (A : Option Addr) (c : Nat) (ds : List TokD), e = .returned (.agg #[.slice A N c]) ∧ ds.length = N ∧ RdIn w' (Low w.heap.size) A (ds.flatMap TokD.cells) ∧ N ≤ c ∧ c ≤ 9223372036854775807 ∧ (∀ d ∈ ds, TIn w' (Low w.heap.size) 7 d) ∧ Cur B w' g ∧ Out (fun q => q = g) w w' := by
  obtain ⟨i0, hi0, hI0, hI1, hI2⟩ := info_parts info_Token
  have hgl := hc.lt
  have hBg := hc.le
  have hbA : Below w.heap.size w ((w.alloc (.cells #[.slice none 0 0] 26)).alloc (.cells #[.slice none 0 0] 26)) := by (repeat (first | (with_reducible exact Below.refl _ _) | (with_reducible assumption) | ((with_reducible refine Below.setCell ?_ ?_ _); rotate_left; focus (first | omega | (simp; done) | (simp; omega))) | ((with_reducible refine Below.alloc ?_ ?_ _); rotate_left; focus (first | omega | (simp; done) | (simp; omega))) | (with_reducible refine Below.drew ?_) | (with_reducible refine below_drewN ?_ _) | (refine Below.trans ?_ (Below.mono (by with_reducible assumption) (by (first | omega | (simp; done) | (simp; omega)))))))
  have B4 : Blk ((w.alloc (.cells #[.slice none 0 0] 26)).alloc (.cells #[.slice none 0 0] 26)) w.heap.size 26 #[.slice none 0 0] := (Blk.new' rfl).alloc _
  have B5 : Blk ((w.alloc (.cells #[.slice none 0 0] 26)).alloc (.cells #[.slice none 0 0] 26)) (w.heap.size + 1) 26 #[.slice none 0 0] := Blk.new' (by simp)
  have HsA : Hid (w.heap.size + 2 = ((w.alloc (.cells #[.slice none 0 0] 26)).alloc (.cells #[.slice none 0 0] 26)).heap.size) := Lib.hid (by simp)
  have hcA := hc.below hbA
  go_enter Try.func57, Try.ntmps57
  go_wp2_with fail
  generalize ((w.alloc (.cells #[.slice none 0 0] 26)).alloc (.cells #[.slice none 0 0] 26)) = wa at *
  have hsA := HsA.out
  obtain ⟨b5, hb5⟩ : ∃ b5, b5 = w.heap.size + 1 := ⟨_, rfl⟩
  obtain ⟨b4, hb4⟩ : ∃ b4, b4 = w.heap.size := ⟨_, rfl⟩
  rw [← hb5] at B5 ⊢
  rw [← hb4] at B4 ⊢
  have hOA := Out.of_below (S := fun q => q = g) hbA
  have h45 : b4 < b5 := by omega
  have hwb : w.heap.size ≤ b4 := by omega
  have hba : b5 < wa.heap.size := by omega
  clear hb4 hb5 HsA hbA hsA
  go_loopw [6] (fun i wr => ∃ (k : Nat) (A1 : Option Addr) (c1 : Nat) (ds : List TokD), i = .int .i64 k ∧ k ≤ N ∧ Hid (ds.length = k) ∧ Blk wr b4 26 #[.slice none 0 0] ∧ Blk wr b5 26 #[.slice A1 k c1] ∧ wr.ownsRow (b5 + 1) 35 7 (.slice A1 k c1) k (ds.flatMap TokD.cells) ∧ Hid (∀ d ∈ ds, TIn wr (fun q => q ≤ b5 ∨ (Value.slice A1 k c1).ownBlock = some q) 6 d) ∧ Cur B wr g ∧ Out (fun q => q = g) w wr) (fun i _ => N - (intOf i).toNat)
  case atStart => exact ⟨0, none, 0, [], rfl, Nat.zero_le _, rfl, B4, B5, World.ownsRow_nil _ _ _ _, Lib.hid (by simp), hcA, hOA⟩
  case round =>
    obtain ⟨k, A1, c1, ds, rfl, hk, hdl, R4, R5, hown, hTs, hcr, hOr⟩ := hrel
    clear B4 B5 hcA hOA
    have hl5 := R5.lt
    have hne : ∀ q, q < b5 + 1 → some q ≠ (Value.slice A1 k c1).ownBlock := fun q hq e => by have := (hown.lt _ e.symm).1; omega
    have hlow : ∀ q, (Value.slice A1 k c1).ownBlock = some q → b5 + 1 ≤ q := fun q e => (hown.lt q e).1
    have hup : ∀ q, (Value.slice A1 k c1).ownBlock = some q → q < wr.heap.size := fun q e => (hown.lt q e).2
    by_cases hlt : k < N
    · have hltI : (k : Int) < (N : Int) := by omega
      have hzd : wr.drew.heap.size = wr.heap.size := by simp
      have hc5 := R5.cell; have hf5 := R5.frozen; have hc5d := R5.drew.cell
      have HDT := Lib.hid (fun (w' : World) (hb : Below wr.heap.size wr w') => spec_l08DrawToken 6 g A1 k c1 ds w' (hcr.below hb) (RdIn.own (own_below hown hb) (fun q hq => Or.inl (by omega))) hdl.out (by omega) (fun d hd => ((hTs.out d hd).keep hb).weak (fun q hq => Or.inl (Or.inl (by omega))) (Nat.le_refl _)) (by omega) (by omega))
      go_wp2_with fail
      go_region_law (first | (go_loud (refine step_append_lies _ (by rfl) _ _ _ (by rfl) (b5 + 1) 35 i0 _ 7 72 Try.underlying24 hi0 hI0 hI1 hI2 rfl (by omega) (.slice A1 k c1) k _ (by rfl) (howA.alloc _) ⟨wA.heap.size, 0, none⟩ 1 1 [.int .i64 d.t.Id, .int .i64 d.t.Parent, .slice d.A d.t.Names.length d.c, .int .i64 d.t.Made, .int .i64 d.t.Ends, .int .i64 d.t.Limit, .int .i64 d.t.Uses] (by rfl) (by rfl) (World.news_of_block (cs := #[.int .i64 d.t.Id, .int .i64 d.t.Parent, .slice d.A d.t.Names.length d.c, .int .i64 d.t.Made, .int .i64 d.t.Ends, .int .i64 d.t.Limit, .int .i64 d.t.Uses]) (t := 35) (fr := (0, 0)) (heap_alloc_new wA _)) (by simp [Value.oneCell']) (by omega) (by simp only [maxLen]; omega) (by omega) (by simp; omega) (wA.heap.size + 1) (by simp) ?_; intro gg cap wf hown1 hgrow hat hlt1; have BY := Blk.grown (RA5.alloc (.cells #[.int .i64 d.t.Id, .int .i64 d.t.Parent, .slice d.A d.t.Names.length d.c, .int .i64 d.t.Made, .int .i64 d.t.Ends, .int .i64 d.t.Limit, .int .i64 d.t.Uses] 35)) hgrow (hne _ (by omega)); have hcY := BY.cell; have hfY := BY.frozen)) | (go_simp; go_at_call 43; ((with_reducible refine (HDT.out _ ?_).mono ?_); (focus (repeat (first | (with_reducible exact Below.refl _ _) | (with_reducible assumption) | ((with_reducible refine Below.setCell ?_ ?_ _); rotate_left; focus (first | omega | (simp; done) | (simp; omega))) | ((with_reducible refine Below.alloc ?_ ?_ _); rotate_left; focus (first | omega | (simp; done) | (simp; omega))) | (with_reducible refine Below.drew ?_) | (with_reducible refine below_drewN ?_ _) | (refine Below.trans ?_ (Below.mono (by with_reducible assumption) (by (first | omega | (simp; done) | (simp; omega))))))))); rintro e wA ⟨d, rfl, hTd, hcA, hdA⟩; have hsA : wr.heap.size ≤ wA.heap.size := (by have h := hdA.size; (try simp at h); omega); have hOg : Out (fun q => q = g) wr wA := (Out.trans (Out.of_below (by (repeat (first | (with_reducible exact Below.refl _ _) | (with_reducible assumption) | ((with_reducible refine Below.setCell ?_ ?_ _); rotate_left; focus (first | omega | (simp; done) | (simp; omega))) | ((with_reducible refine Below.alloc ?_ ?_ _); rotate_left; focus (first | omega | (simp; done) | (simp; omega))) | (with_reducible refine Below.drew ?_) | (with_reducible refine below_drewN ?_ _) | (refine Below.trans ?_ (Below.mono (by with_reducible assumption) (by (first | omega | (simp; done) | (simp; omega))))))))) hdA); have RA4 := R4.out hOg (by omega); have RA5 := R5.out hOg (by omega); have hcA5 := RA5.cell; have hfA5 := RA5.frozen; have hcA5a := (RA5.alloc (.cells #[.int .i64 d.t.Id, .int .i64 d.t.Parent, .slice d.A d.t.Names.length d.c, .int .i64 d.t.Made, .int .i64 d.t.Ends, .int .i64 d.t.Limit, .int .i64 d.t.Uses] 35)).cell; have howA := own_out hown hOg (fun q hq e => by have := hlow q hq; omega); have hTd2 : TIn wA (Low wr.heap.size) 6 d := (by simpa using hTd)))
      all_goals
        have hzg : wA.heap.size + 1 ≤ wf.heap.size := by simpa using hgrow.size
        have RY4 := Blk.grown (RA4.alloc (.cells #[.int .i64 d.t.Id, .int .i64 d.t.Parent, .slice d.A d.t.Names.length d.c, .int .i64 d.t.Made, .int .i64 d.t.Ends, .int .i64 d.t.Limit, .int .i64 d.t.Uses] 35)) hgrow (hne _ (by omega))
        have hXX : ∀ q, (q ≤ b5 ∨ (Value.slice (some ⟨gg, 0, none⟩) (k + 1) cap).ownBlock = some q) → (q ≤ b5 ∨ (Value.slice A1 k c1).ownBlock = some q) ∨ (wA.alloc (.cells #[.int .i64 d.t.Id, .int .i64 d.t.Parent, .slice d.A d.t.Names.length d.c, .int .i64 d.t.Made, .int .i64 d.t.Ends, .int .i64 d.t.Limit, .int .i64 d.t.Uses] 35)).heap.size ≤ q := fun q hq => by
          rcases hq with hq | hq
          · exact Or.inl (Or.inl hq)
          · have h7 : gg = q := by simpa [Value.ownBlock] using hq
            subst h7
            rcases hat with h6 | h6
            · exact Or.inl (Or.inr h6)
            · exact Or.inr (by rw [h6]; simp)
        have hbO : Below wA.heap.size wA (wA.alloc (.cells #[.int .i64 d.t.Id, .int .i64 d.t.Parent, .slice d.A d.t.Names.length d.c, .int .i64 d.t.Made, .int .i64 d.t.Ends, .int .i64 d.t.Limit, .int .i64 d.t.Uses] 35)) := (Below.refl _ wA).alloc (Nat.le_refl _) _
        have hcY' : Cur B wf g := (hcA.below hbO).out (out_gr hgrow) (fun q e => by have := hlow q e; omega)
        have hOY : Out (fun q => q = g) w wf := Out.growR ((hOr.trans hOg).alloc (.cells #[.int .i64 d.t.Id, .int .i64 d.t.Parent, .slice d.A d.t.Names.length d.c, .int .i64 d.t.Made, .int .i64 d.t.Ends, .int .i64 d.t.Limit, .int .i64 d.t.Uses] 35)) hgrow (fun q e => by have := hlow q e; omega)
        have hall : ∀ d' ∈ ds ++ [d], TIn (wf.setCell ⟨b5, 0, none⟩ (.slice (some ⟨gg, 0, none⟩) (k + 1) cap)) (fun q => q ≤ b5 ∨ (Value.slice (some ⟨gg, 0, none⟩) (k + 1) cap).ownBlock = some q) 6 d' := fun d' hd' => by
          have key : TIn (wA.alloc (.cells #[.int .i64 d.t.Id, .int .i64 d.t.Parent, .slice d.A d.t.Names.length d.c, .int .i64 d.t.Made, .int .i64 d.t.Ends, .int .i64 d.t.Limit, .int .i64 d.t.Uses] 35)) (fun q => (q ≤ b5 ∨ (Value.slice A1 k c1).ownBlock = some q) ∨ (q ≤ b5 ∨ (Value.slice (some ⟨gg, 0, none⟩) (k + 1) cap).ownBlock = some q)) 6 d' := by
            rcases List.mem_append.1 hd' with h | h
            · exact (((hTs.out d' h).out hOg (fun q hq => Or.inl (by omega))).keep hbO).weak (fun q hq => by rcases hq with hq | hq; exact Or.inl hq; exact hXX q hq) (Nat.le_refl _)
            · rw [List.mem_singleton.1 h]
              refine (hTd2.keep hbO).weak (fun q hq => ?_) (Nat.le_refl _)
              have h8 : q < wr.heap.size ∨ (wA.alloc (.cells #[.int .i64 d.t.Id, .int .i64 d.t.Parent, .slice d.A d.t.Names.length d.c, .int .i64 d.t.Made, .int .i64 d.t.Ends, .int .i64 d.t.Limit, .int .i64 d.t.Uses] 35)).heap.size ≤ q := by
                rcases hq with (hq | hq) | hq
                · left; omega
                · left; exact hup q hq
                · rcases hXX q hq with (h9 | h9) | h9
                  · left; omega
                  · left; exact hup q h9
                  · right; exact h9
              exact h8
          exact ((key.out (out_gr hgrow) (fun q e => Or.inl (Or.inr e))).weak (fun q hq => Or.inl (Or.inr hq)) (Nat.le_refl _)).out (out_set wf b5 0 _) (fun q hq => Or.inl (by omega))
        go_wp2_with fail
        go_roundw
        case rel =>
          refine ⟨k + 1, some ⟨gg, 0, none⟩, cap, ds ++ [d], by go_num, by omega, Lib.hid (by rw [List.length_append, hdl.out]; rfl), ?_, ?_, ?_, Lib.hid hall, ?_, ?_⟩
          · exact RY4.far (by simp; omega) _
          · exact BY.set_ 0 _
          · refine own_setCell ?_ (by simp) _
            rw [List.flatMap_append]; exact hown1
          · exact hcY'.out (out_set _ _ _ _) (fun q hq => by omega)
          · exact hOY.join (out_set wf b5 0 _) (fun q hq => by right; omega)
        case measure => simp [intOf]; omega
    · obtain rfl : k = N := by omega
      have hc5 := R5.cell; have hf5 := R5.frozen
      go_upto_region 6 with fail
      go_cut [29] (fun s29 wx => ∃ b : Bool, s29 = .bool b ∧ (b = true → 0 < k) ∧ Cur B wx g ∧ Out (fun q => q = g) wr wx)
      case first =>
        go_wp2_with fail
        refine (spec_l01Once g 20 _ hcr (by omega)).mono ?_
        rintro e w7 ⟨bb, rfl, hd7⟩
        have R57 := R5.out hd7.2 (by omega)
        clear hc5 hf5
        have hc5 := R57.cell
        cases bb
        · go_wp2_with fail
          go_meet
          exact ⟨false, rfl, by simp, hd7.1, hd7.2⟩
        · by_cases hk0 : (0 : Int) < (k : Int)
          · go_wp2_with fail
            go_meet
            exact ⟨true, by simp; omega, fun _ => by omega, hd7.1, hd7.2⟩
          · go_wp2_with fail
            go_meet
            exact ⟨false, by simp; omega, by simp, hd7.1, hd7.2⟩
      case rest =>
      obtain ⟨bb, rfl, hbk, hcu, hd7⟩ := hcut
      obtain ⟨w7, hw7⟩ : ∃ w_, w_ = wc := ⟨_, rfl⟩
      subst hw7
      have hs7 := hd7.size
      replace R4 := R4.out hd7 (by omega)
      replace R5 := R5.out hd7 (by omega)
      replace hown := own_out hown hd7 (fun q hq e => by have := hlow q hq; omega)
      have hT7 := Lib.hid (fun (d : TokD) (hd : d ∈ ds) => (hTs.out d hd).out hd7 (fun q hq => Or.inl (by omega)))
      replace hOr := hOr.trans hd7
      clear hTs hup hcr hd7 hc5 hf5
      have hc5 := R5.cell; have hf5 := R5.frozen
      go_upto_if 29 with fail
      go_cut [] (fun wx => ∃ (ds' : List TokD), ds'.length = k ∧ Blk wx b4 26 #[.slice none 0 0] ∧ Blk wx b5 26 #[.slice A1 k c1] ∧ wx.ownsRow (b5 + 1) 35 7 (.slice A1 k c1) k (ds'.flatMap TokD.cells) ∧ (∀ d ∈ ds', TIn wx (fun q => q ≤ b5 ∨ (Value.slice A1 k c1).ownBlock = some q) 7 d) ∧ Cur B wx g ∧ Out (fun q => q = g) w wx)
      case first =>
        cases bb
        · go_wp2_with fail
          go_meet
          exact ⟨ds, hdl.out, R4, R5, hown, fun d hd => (hT7.out d hd).weak (fun q hq => Or.inl hq) (by omega), hcu, hOr⟩
        have hk0 := hbk rfl
        obtain ⟨gq, cq, hv, hq1, hq2⟩ := hown.form (by omega)
        simp only [Value.slice.injEq, true_and] at hv
        obtain ⟨rfl, rfl⟩ := hv
        go_wp2_with fail
        refine (spec_l01Below g k _ hcu (by omega)).mono ?_
        rintro e w8 ⟨x, rfl, hx0, hx1, -, hd8⟩
        have hx := hx1 (by omega)
        have hs8 := hd8.size
        obtain ⟨j, rfl⟩ : ∃ j : Nat, x = j := ⟨x.toNat, by omega⟩
        replace R4 := R4.out hd8.2 (by omega)
        replace R5 := R5.out hd8.2 (by omega)
        replace hown := own_drawn hown hd8 (by omega)
        replace hOr := hOr.trans hd8.2
        have hkl : j < ds.length := by rw [hdl.out]; omega
        have HKd := Lib.hid (List.getElem?_eq_getElem hkl)
        have hT8 := Lib.hid ((hT7.out _ (List.getElem_mem hkl)).out hd8.2 (fun q hq => Or.inl (by omega)))
        have hAll8 := Lib.hid (fun (d : TokD) (hd : d ∈ ds) => (hT7.out d hd).out hd8.2 (fun q hq => Or.inl (by omega)))
        generalize ds[j]'hkl = d at HKd hT8
        have hlq : ∀ q, (Value.slice (some ⟨gq, 0, none⟩) k c1).ownBlock = some q → q < w8.heap.size := fun q hq => (hown.lt q hq).2
        have hgq8 : gq < w8.heap.size := hlq gq rfl
        have hgqb : b5 + 1 ≤ gq := hq1
        have HB := Lib.hid (fun (w' : World) (hb : Below w8.heap.size w8 w') => spec_l08BendToken 6 g d (fun q => q ≤ b5 ∨ (Value.slice (some ⟨gq, 0, none⟩) k c1).ownBlock = some q) w' (hd8.1.below hb) (hT8.out.keep hb) (Or.inl (by omega)) (fun q hq => by have := hb.size; have := R5.lt; rcases hq with hq | hq; omega; have := hlq q hq; omega) (by omega))
        obtain ⟨r0, r1, r2, r3, r4, r5, r6⟩ := row_all (X := fun _ => False) (RdIn.own hown (fun q hq => hq.elim)) HKd.out
        simp only [Nat.zero_add] at r0 r1 r2 r3 r4 r5 r6
        have hkI : (j : Int) < (k : Int) := by omega
        clear hc5 hf5 hkl hcu hT7
        have hc5 := R5.cell; have hf5 := R5.frozen
        go_wp2_with fail
        go_region_law (first | (go_simp; go_at_call 45; ((with_reducible refine (HB.out _ ?_).mono ?_); (focus (repeat (first | (with_reducible exact Below.refl _ _) | (with_reducible assumption) | ((with_reducible refine Below.setCell ?_ ?_ _); rotate_left; focus (first | omega | (simp; done) | (simp; omega))) | ((with_reducible refine Below.alloc ?_ ?_ _); rotate_left; focus (first | omega | (simp; done) | (simp; omega))) | (with_reducible refine Below.drew ?_) | (with_reducible refine below_drewN ?_ _) | (refine Below.trans ?_ (Below.mono (by with_reducible assumption) (by (first | omega | (simp; done) | (simp; omega))))))))); rintro e wA ⟨d', rfl, hTd, hcA, hdA⟩; have hOg : Out (fun q => q = g) w8 wA := (Out.trans (Out.of_below (by (repeat (first | (with_reducible exact Below.refl _ _) | (with_reducible assumption) | ((with_reducible refine Below.setCell ?_ ?_ _); rotate_left; focus (first | omega | (simp; done) | (simp; omega))) | ((with_reducible refine Below.alloc ?_ ?_ _); rotate_left; focus (first | omega | (simp; done) | (simp; omega))) | (with_reducible refine Below.drew ?_) | (with_reducible refine below_drewN ?_ _) | (refine Below.trans ?_ (Below.mono (by with_reducible assumption) (by (first | omega | (simp; done) | (simp; omega))))))))) hdA); have hsA := hOg.size; have RA4 := R4.out hOg (by omega); have RA5 := R5.out hOg (by omega); have hcA5 := RA5.cell; have howA := own_out hown hOg (fun q hq e => by have := (hown.lt q hq).1; omega); obtain ⟨s0, s1, s2, s3, s4, s5, s6⟩ := row_all (X := fun _ => False) (RdIn.own howA (fun q hq => hq.elim)) HKd.out; (simp only [Nat.zero_add] at s0 s1 s2 s3 s4 s5 s6); have f0 := howA.frozenAt (j * 7); have f1 := howA.frozenAt (j * 7 + 1); have f2 := howA.frozenAt (j * 7 + 2); have f3 := howA.frozenAt (j * 7 + 3); have f4 := howA.frozenAt (j * 7 + 4); have f5 := howA.frozenAt (j * 7 + 5); have f6 := howA.frozenAt (j * 7 + 6)))
        all_goals
          have hO7 : Out (fun q => q = gq) wA (World.setCell (World.setCell (World.setCell (World.setCell (World.setCell (World.setCell (World.setCell wA ⟨gq, j * 7, none⟩ (.int .i64 d'.t.Id)) ⟨gq, j * 7 + 1, none⟩ (.int .i64 d'.t.Parent)) ⟨gq, j * 7 + 2, none⟩ (.slice d'.A d'.t.Names.length d'.c)) ⟨gq, j * 7 + 3, none⟩ (.int .i64 d'.t.Made)) ⟨gq, j * 7 + 4, none⟩ (.int .i64 d'.t.Ends)) ⟨gq, j * 7 + 5, none⟩ (.int .i64 d'.t.Limit)) ⟨gq, j * 7 + 6, none⟩ (.int .i64 d'.t.Uses)) := (Out.trans (Out.trans (Out.trans (Out.trans (Out.trans (Out.trans (out_set wA gq (j * 7) (.int .i64 d'.t.Id)) (out_set _ gq _ _)) (out_set _ gq _ _)) (out_set _ gq _ _)) (out_set _ gq _ _)) (out_set _ gq _ _)) (out_set _ gq _ _))
          have h4 := (Blk.far (Blk.far (Blk.far (Blk.far (Blk.far (Blk.far (Blk.far RA4 (p := ⟨gq, j * 7, none⟩) (by simp; omega) (.int .i64 d'.t.Id)) (p := ⟨gq, j * 7 + 1, none⟩) (by simp; omega) (.int .i64 d'.t.Parent)) (p := ⟨gq, j * 7 + 2, none⟩) (by simp; omega) (.slice d'.A d'.t.Names.length d'.c)) (p := ⟨gq, j * 7 + 3, none⟩) (by simp; omega) (.int .i64 d'.t.Made)) (p := ⟨gq, j * 7 + 4, none⟩) (by simp; omega) (.int .i64 d'.t.Ends)) (p := ⟨gq, j * 7 + 5, none⟩) (by simp; omega) (.int .i64 d'.t.Limit)) (p := ⟨gq, j * 7 + 6, none⟩) (by simp; omega) (.int .i64 d'.t.Uses))
          have h5 := (Blk.far (Blk.far (Blk.far (Blk.far (Blk.far (Blk.far (Blk.far RA5 (p := ⟨gq, j * 7, none⟩) (by simp; omega) (.int .i64 d'.t.Id)) (p := ⟨gq, j * 7 + 1, none⟩) (by simp; omega) (.int .i64 d'.t.Parent)) (p := ⟨gq, j * 7 + 2, none⟩) (by simp; omega) (.slice d'.A d'.t.Names.length d'.c)) (p := ⟨gq, j * 7 + 3, none⟩) (by simp; omega) (.int .i64 d'.t.Made)) (p := ⟨gq, j * 7 + 4, none⟩) (by simp; omega) (.int .i64 d'.t.Ends)) (p := ⟨gq, j * 7 + 5, none⟩) (by simp; omega) (.int .i64 d'.t.Limit)) (p := ⟨gq, j * 7 + 6, none⟩) (by simp; omega) (.int .i64 d'.t.Uses))
          have hall : ∀ e ∈ ds.set j d', TIn (World.setCell (World.setCell (World.setCell (World.setCell (World.setCell (World.setCell (World.setCell wA ⟨gq, j * 7, none⟩ (.int .i64 d'.t.Id)) ⟨gq, j * 7 + 1, none⟩ (.int .i64 d'.t.Parent)) ⟨gq, j * 7 + 2, none⟩ (.slice d'.A d'.t.Names.length d'.c)) ⟨gq, j * 7 + 3, none⟩ (.int .i64 d'.t.Made)) ⟨gq, j * 7 + 4, none⟩ (.int .i64 d'.t.Ends)) ⟨gq, j * 7 + 5, none⟩ (.int .i64 d'.t.Limit)) ⟨gq, j * 7 + 6, none⟩ (.int .i64 d'.t.Uses)) (fun q => q ≤ b5 ∨ (Value.slice (some ⟨gq, 0, none⟩) k c1).ownBlock = some q) 7 e := fun e he => by
            refine TIn.out ?_ hO7 (fun q hq => Or.inr (by rw [hq]; rfl))
            rcases List.mem_or_eq_of_mem_set he with h | rfl
            · exact ((hAll8.out e h).out hOg (fun q hq => Or.inl (by omega))).weak (fun q hq => Or.inl hq) (by omega)
            · exact hTd
          go_wp2_with fail
          go_meet
          exact ⟨ds.set j d', by rw [List.length_set, hdl.out], h4, h5, own_put howA HKd.out d', hall, hcA.out hO7 (fun q hq => by omega), (hOr.trans hOg).join hO7 (fun q hq => by right; omega)⟩
      case rest =>
        clear hown hT7 hdl hcu R4 R5 hOr hc5 hf5
        obtain ⟨ds', hdl, R4, R5, hown, hall, hcu, hOr⟩ := hcut
        obtain ⟨wz, hwz⟩ : ∃ w_, w_ = wc := ⟨_, rfl⟩
        subst hwz
        have hc5 := R5.cell; have hf5 := R5.frozen
        have hc4 := R4.cell; have hf4 := R4.frozen; have hl4 := R4.lt
        have Hdl := Lib.hid hdl
        clear hdl
        go_wp2_with fail
        refine bodyPost_ret (v := .agg #[.slice A1 k c1]) (by simp [results, Try.results57, go_sem, hc4, hf4]) rfl ⟨A1, c1, ds', rfl, Hdl.out, ?_, own_cap hown, own_max hown, fun d hd => ?_, hcu.out (out_set _ _ _ _) (fun q hq => by omega), hOr.join (out_set _ _ _ _) (fun q hq => by right; omega)⟩
        · exact RdIn.own (own_setCell hown (by simp; omega) _) (fun q hq => Or.inl (by have : q < w.heap.size := hq; omega))
        · exact ((hall d hd).out (out_set wz b4 0 _) (fun q hq => Or.inl (by omega))).weak (fun q hq => Or.inl (Or.inl (by have : q < w.heap.size := hq; omega))) (Nat.le_refl _)
end Go.Proofs.Ytcfhnhhgnophhaa
namespace Go.Proofs.Ytcfhnhhgnophhaa
open Go.RowKit
variable {B : Nat}
/-- A drawn forest, to be read apart from X. -/
structure FDr (w : World) (X : Nat → Prop) (A : Option Addr) (N c : Nat) (ds : List TokD) : Prop where
  len : ds.length = N
  few : N ≤ 121
  cap : N ≤ c
  max : c ≤ 9223372036854775807
  row : RdIn w X A (ds.flatMap TokD.cells)
  tok : ∀ d ∈ ds, TIn w X 7 d
theorem FDr.out {w w' : World} {X T : Nat → Prop} {A : Option Addr} {N c : Nat} {ds : List TokD} (h : FDr w X A N c ds) (ho : Out T w w') (hT : ∀ g, T g → X g) : FDr w' X A N c ds := ⟨h.len, h.few, h.cap, h.max, h.row.out ho hT, fun d hd => (h.tok d hd).out ho hT⟩
theorem FDr.keep {w w' : World} {X : Nat → Prop} {A : Option Addr} {N c : Nat} {ds : List TokD} (h : FDr w X A N c ds) (hb : Below w.heap.size w w') : FDr w' X A N c ds := ⟨h.len, h.few, h.cap, h.max, h.row.keep hb, fun d hd => (h.tok d hd).keep hb⟩
theorem FDr.weak {w : World} {X X' : Nat → Prop} {A : Option Addr} {N c : Nat} {ds : List TokD} (h : FDr w X A N c ds) (hX : ∀ b, X' b → X b ∨ w.heap.size ≤ b) : FDr w X' A N c ds := ⟨h.len, h.few, h.cap, h.max, h.row.weak hX, fun d hd => (h.tok d hd).weak hX (Nat.le_refl _)⟩
theorem FDr.rd {w : World} {X : Nat → Prop} {A : Option Addr} {N c : Nat} {ds : List TokD} (h : FDr w X A N c ds) : SlRd TokenR w w.heap.size (.slice A N c) (ds.map (·.t)) := forest_rd h.row.1 h.len h.cap h.max h.tok
theorem FDr.small {w : World} {X : Nat → Prop} {A : Option Addr} {N c : Nat} {ds : List TokD} (h : FDr w X A N c ds) : szList TokenR (ds.map (·.t)) ≤ 1048576 := forest_small (fun d hd => (h.tok d hd).weak (fun _ hq => Or.inl hq) (by omega)) (by have := h.len; have := h.few; omega)
set_option maxHeartbeats 3200000 in
theorem spec_l08DrawOne (A0 : Option Addr) (c0 : Nat) (code : List UInt8) (w : World) (hr : Reads w B A0 (code.map byteV)) (hB : B ≤ w.heap.size) (hm : code.length ≤ 1048576) :
    Calls Try.prog 27 #[.slice A0 code.length c0] w fun e w' => ∃ (g : Nat) (A : Option Addr) (N c : Nat) (ds : List TokD), e = .returned (.tuple #[.pointer (some ⟨g, 0, none⟩), .agg #[.slice A N c]]) ∧ Cur B w' g ∧ w.heap.size ≤ g ∧ FDr w' (fun q => q ≤ g) A N c ds ∧ Below w.heap.size w w' := by
  have HN := Lib.hid (fun (w' : World) (hb : Below w.heap.size w w') => spec_l01New (B := B) A0 c0 code w' (hr.below hb hB) (Nat.le_trans hB hb.size) hm)
  generalize code.length = n at *
  clear hr
  go_enter Try.func27, Try.ntmps27
  go_wp2_with fail
  have hb0 : Below w.heap.size w (w.alloc (.cells #[.slice none 0 0] 26)) := by (repeat (first | (with_reducible exact Below.refl _ _) | (with_reducible assumption) | ((with_reducible refine Below.setCell ?_ ?_ _); rotate_left; focus (first | omega | (simp; done) | (simp; omega))) | ((with_reducible refine Below.alloc ?_ ?_ _); rotate_left; focus (first | omega | (simp; done) | (simp; omega))) | (with_reducible refine Below.drew ?_) | (with_reducible refine below_drewN ?_ _) | (refine Below.trans ?_ (Below.mono (by with_reducible assumption) (by (first | omega | (simp; done) | (simp; omega)))))))
  have B0 : Blk (w.alloc (.cells #[.slice none 0 0] 26)) w.heap.size 26 #[.slice none 0 0] := Blk.new' rfl
  have hs0 : w.heap.size + 1 = (w.alloc (.cells #[.slice none 0 0] 26)).heap.size := by simp
  generalize (w.alloc (.cells #[.slice none 0 0] 26)) = wa at *
  refine (HN.out _ hb0).mono ?_
  rintro e w1 ⟨rfl, hc1, hb1⟩
  obtain ⟨g, hg⟩ : ∃ g, g = wa.heap.size := ⟨_, rfl⟩
  rw [← hg] at hc1 ⊢
  have hgl := hc1.lt
  have hBg := hc1.le
  have hgw : w.heap.size < g := by omega
  replace B0 := B0.keep hb1
  replace hb1 := hb0.trans (hb1.mono (by omega))
  clear hg hs0
  go_wp2_with fail
  refine (spec_l01Size A0 n c0 14 _ hm (by omega) (by omega)).mono ?_
  rintro e w' ⟨m, rfl, hm0, hm1, rfl⟩
  go_wp2_with fail
  refine (spec_l01Below g m _ hc1 (by omega)).mono ?_
  rintro e w2 ⟨x, rfl, hx0, hx1, -, hd2⟩
  have hx := hx1 (by omega)
  have hs2 := hd2.size
  replace B0 := B0.out hd2.2 (by omega)
  go_wp2_with fail
  refine (spec_l01Once g 40 _ hd2.1 (by omega)).mono ?_
  rintro e w3 ⟨b, rfl, hd3⟩
  have hs3 := hd3.size
  replace B0 := B0.out hd3.2 (by omega)
  have hO3 := hd2.2.trans hd3.2
  cases b
  · obtain ⟨N, rfl⟩ : ∃ N : Nat, x = N := ⟨x.toNat, by omega⟩
    go_wp2_with fail
    refine (spec_l08DrawForest g N _ hd3.1 (by omega)).mono ?_
    rintro e w5 ⟨Av, cv, ds, rfl, hdl, hrow, hcap, hmax, hall, hc5, hO5⟩
    have hs5 := hO5.size
    replace B0 := B0.out hO5 (by omega)
    have hc0 := B0.cell; have hf0 := B0.frozen
    have hb5 := hb1.trans ((hO3.trans hO5).below (B := w.heap.size) (by omega) (fun q hq => by omega))
    have hF : FDr w5 (fun q => q ≤ g) Av N cv ds := ⟨hdl, by omega, hcap, hmax, hrow.weak (fun q hq => Or.inl (show q < w3.heap.size by have : q ≤ g := hq; omega)), fun d hd => (hall d hd).weak (fun q hq => Or.inl (show q < w3.heap.size by have : q ≤ g := hq; omega)) (Nat.le_refl _)⟩
    have HF := Lib.hid hF
    clear hF hdl hrow hcap hmax hall
    go_wp2_with fail
    refine bodyPost_ret (v := .tuple #[.pointer (some ⟨g, 0, none⟩), .agg #[.slice Av N cv]]) (by simp [results, Try.results27, go_sem, hc0, hf0]) rfl ⟨g, Av, N, cv, ds, rfl, hc5.out (out_set _ _ _ _) (fun q hq => by omega), by omega, HF.out.out (out_set _ _ _ _) (fun q hq => by omega), by (repeat (first | (with_reducible exact Below.refl _ _) | (with_reducible assumption) | ((with_reducible refine Below.setCell ?_ ?_ _); rotate_left; focus (first | omega | (simp; done) | (simp; omega))) | ((with_reducible refine Below.alloc ?_ ?_ _); rotate_left; focus (first | omega | (simp; done) | (simp; omega))) | (with_reducible refine Below.drew ?_) | (with_reducible refine below_drewN ?_ _) | (refine Below.trans ?_ (Below.mono (by with_reducible assumption) (by (first | omega | (simp; done) | (simp; omega)))))))⟩
  · go_wp2_with fail
    refine (spec_l01Below g 3 _ hd3.1 (by omega)).mono ?_
    rintro e w4 ⟨y, rfl, hy0, hy1, -, hd4⟩
    have hy := hy1 (by omega)
    have hs4 := hd4.size
    replace B0 := B0.out hd4.2 (by omega)
    replace hO3 := hO3.trans hd4.2
    obtain ⟨N, hN⟩ : ∃ N : Nat, 119 + y = N := ⟨(119 + y).toNat, by omega⟩
    replace hd3 := hd4
    replace hs3 := Nat.le_trans hs3 hs4
    go_wp2_with fail
    try rw [hN]
    refine (spec_l08DrawForest g N _ hd3.1 (by omega)).mono ?_
    rintro e w5 ⟨Av, cv, ds, rfl, hdl, hrow, hcap, hmax, hall, hc5, hO5⟩
    have hs5 := hO5.size
    replace B0 := B0.out hO5 (by omega)
    have hc0 := B0.cell; have hf0 := B0.frozen
    have hb5 := hb1.trans ((hO3.trans hO5).below (B := w.heap.size) (by omega) (fun q hq => by omega))
    have hF : FDr w5 (fun q => q ≤ g) Av N cv ds := ⟨hdl, by omega, hcap, hmax, hrow.weak (fun q hq => Or.inl (show q < w4.heap.size by have : q ≤ g := hq; omega)), fun d hd => (hall d hd).weak (fun q hq => Or.inl (show q < w4.heap.size by have : q ≤ g := hq; omega)) (Nat.le_refl _)⟩
    have HF := Lib.hid hF
    clear hF hdl hrow hcap hmax hall
    go_wp2_with fail
    refine bodyPost_ret (v := .tuple #[.pointer (some ⟨g, 0, none⟩), .agg #[.slice Av N cv]]) (by simp [results, Try.results27, go_sem, hc0, hf0]) rfl ⟨g, Av, N, cv, ds, rfl, hc5.out (out_set _ _ _ _) (fun q hq => by omega), by omega, HF.out.out (out_set _ _ _ _) (fun q hq => by omega), by (repeat (first | (with_reducible exact Below.refl _ _) | (with_reducible assumption) | ((with_reducible refine Below.setCell ?_ ?_ _); rotate_left; focus (first | omega | (simp; done) | (simp; omega))) | ((with_reducible refine Below.alloc ?_ ?_ _); rotate_left; focus (first | omega | (simp; done) | (simp; omega))) | (with_reducible refine Below.drew ?_) | (with_reducible refine below_drewN ?_ _) | (refine Below.trans ?_ (Below.mono (by with_reducible assumption) (by (first | omega | (simp; done) | (simp; omega)))))))⟩
set_option maxHeartbeats 1600000 in
theorem spec_l08DrawNow (g : Nat) (w : World) (hc : Cur B w g) :
    Calls Try.prog 28 #[.pointer (some ⟨g, 0, none⟩)] w fun e w' => ∃ x : Int, e = .returned (.int .i64 x) ∧ Cur B w' g ∧ Out (fun q => q = g) w w' := by
  go_enter Try.func28, Try.ntmps28
  go_wp2_with fail
  refine (spec_l01Below g 60 _ hc (by omega)).mono ?_
  rintro e w1 ⟨x, rfl, -, -, -, hd1⟩
  go_wp2_with fail
  refine (spec_l01Below g 200 _ hd1.1 (by omega)).mono ?_
  rintro e w2 ⟨y, rfl, -, -, -, hd2⟩
  go_wp2_with fail
  refine (spec_l01Below g 200 _ hd2.1 (by omega)).mono ?_
  rintro e w3 ⟨z, rfl, -, -, -, hd3⟩
  go_wp2_with fail
  refine (spec_pickLit g w3 [0, x, y, z, 1000000000, 1000000001, -1] hd3.1 (by simp) (by simp)).mono ?_
  rintro e w4 ⟨v, rfl, -, hc4, hO4, -⟩
  go_wp2
  go_ret
  exact ⟨v, rfl, hc4, ((hd1.2.trans hd2.2).trans hd3.2).trans hO4⟩
set_option maxHeartbeats 3200000 in
theorem spec_DrawSweepTokens (A0 : Option Addr) (c0 : Nat) (code : List UInt8) (w : World) (hr : Reads w w.heap.size A0 (code.map byteV)) (hm : code.length ≤ 1048576) :
    Calls Try.prog 7 #[.slice A0 code.length c0] w fun e w' => ∃ (A : Option Addr) (N c : Nat) (ds : List TokD) (now : Int), e = .returned (.tuple #[.agg #[.slice A N c], .int .i64 now]) ∧ FDr w' (Low w.heap.size) A N c ds ∧ Below w.heap.size w w' := by
  have HN := Lib.hid (fun (w' : World) (hb : Below w.heap.size w w') => spec_l08DrawOne (B := w.heap.size) A0 c0 code w' (hr.below hb (Nat.le_refl _)) hb.size hm)
  generalize code.length = n at *
  clear hr
  go_enter Try.func7, Try.ntmps7
  go_wp2_with fail
  have hb0 : Below w.heap.size w (w.alloc (.cells #[.slice none 0 0] 26)) := by (repeat (first | (with_reducible exact Below.refl _ _) | (with_reducible assumption) | ((with_reducible refine Below.setCell ?_ ?_ _); rotate_left; focus (first | omega | (simp; done) | (simp; omega))) | ((with_reducible refine Below.alloc ?_ ?_ _); rotate_left; focus (first | omega | (simp; done) | (simp; omega))) | (with_reducible refine Below.drew ?_) | (with_reducible refine below_drewN ?_ _) | (refine Below.trans ?_ (Below.mono (by with_reducible assumption) (by (first | omega | (simp; done) | (simp; omega)))))))
  have B2 : Blk (w.alloc (.cells #[.slice none 0 0] 26)) w.heap.size 26 #[.slice none 0 0] := Blk.new' rfl
  have hs0 : w.heap.size + 1 = (w.alloc (.cells #[.slice none 0 0] 26)).heap.size := by simp
  generalize (w.alloc (.cells #[.slice none 0 0] 26)) = wa at *
  refine (HN.out _ hb0).mono ?_
  rintro e w1 ⟨g, A, N, c, ds, rfl, hc1, hg1, hF, hb1⟩
  have hgl := hc1.lt
  have hBg := hc1.le
  replace B2 := B2.keep hb1
  replace hb1 := hb0.trans (hb1.mono (by omega))
  have hb5 : Below w1.heap.size w1 (w1.alloc (.cells #[.slice A N c] 26)) := by (repeat (first | (with_reducible exact Below.refl _ _) | (with_reducible assumption) | ((with_reducible refine Below.setCell ?_ ?_ _); rotate_left; focus (first | omega | (simp; done) | (simp; omega))) | ((with_reducible refine Below.alloc ?_ ?_ _); rotate_left; focus (first | omega | (simp; done) | (simp; omega))) | (with_reducible refine Below.drew ?_) | (with_reducible refine below_drewN ?_ _) | (refine Below.trans ?_ (Below.mono (by with_reducible assumption) (by (first | omega | (simp; done) | (simp; omega)))))))
  have B5 : Blk (w1.alloc (.cells #[.slice A N c] 26)) w1.heap.size 26 #[.slice A N c] := Blk.new' rfl
  have B25 := B2.keep hb5
  have hc5c := hc1.below hb5
  have hF5 := hF.keep hb5
  have HsB : Hid (w1.heap.size + 1 = (w1.alloc (.cells #[.slice A N c] 26)).heap.size) := Lib.hid (by simp)
  go_wp2_with fail
  generalize (w1.alloc (.cells #[.slice A N c] 26)) = w5 at *
  have hsB := HsB.out
  obtain ⟨b5, hb5e⟩ : ∃ b5, b5 = w1.heap.size := ⟨_, rfl⟩
  obtain ⟨b2, hb2e⟩ : ∃ b2, b2 = w.heap.size := ⟨_, rfl⟩
  rw [← hb5e] at B5 ⊢
  rw [← hb2e] at B25 ⊢
  have hg5 : g < b5 := by omega
  have h25 : b5 < w5.heap.size := by omega
  have h2g : b2 < g := by omega
  have hwb2 : w.heap.size ≤ b2 := by omega
  have hbw5 := hb1.trans (hb5.mono hb1.size)
  clear hb5e hb2e hsB HsB hb5 hs0 hb0 hF hc1 B2
  have hc5 := B5.cell; have hc2 := B25.cell; have hf2 := B25.frozen
  go_region_law (first | (go_simp; go_at_call 28; refine (spec_l08DrawNow g _ (hc5c.below (by (repeat (first | (with_reducible exact Below.refl _ _) | (with_reducible assumption) | ((with_reducible refine Below.setCell ?_ ?_ _); rotate_left; focus (first | omega | (simp; done) | (simp; omega))) | ((with_reducible refine Below.alloc ?_ ?_ _); rotate_left; focus (first | omega | (simp; done) | (simp; omega))) | (with_reducible refine Below.drew ?_) | (with_reducible refine below_drewN ?_ _) | (refine Below.trans ?_ (Below.mono (by with_reducible assumption) (by (first | omega | (simp; done) | (simp; omega)))))))))).mono ?_; rintro e wA ⟨now, rfl, hcA, hdA⟩; have hOg : Out (fun q => q = g) w5 wA := (Out.trans (Out.of_below (by (repeat (first | (with_reducible exact Below.refl _ _) | (with_reducible assumption) | ((with_reducible refine Below.setCell ?_ ?_ _); rotate_left; focus (first | omega | (simp; done) | (simp; omega))) | ((with_reducible refine Below.alloc ?_ ?_ _); rotate_left; focus (first | omega | (simp; done) | (simp; omega))) | (with_reducible refine Below.drew ?_) | (with_reducible refine below_drewN ?_ _) | (refine Below.trans ?_ (Below.mono (by with_reducible assumption) (by (first | omega | (simp; done) | (simp; omega))))))))) hdA); have BA5 := B5.out hOg (by omega); have BA2 := B25.out hOg (by omega); have hcA5 := BA5.cell; have hcA2 := BA2.cell; have hfA2 := BA2.frozen))
  all_goals
    have hFA := (hF5.out hOg (fun q hq => by omega)).out (out_set wA b2 0 (.slice A N c)) (fun q hq => by omega)
    have hsA := hOg.size
    go_wp2_with fail
    refine bodyPost_ret (v := .tuple #[.agg #[.slice A N c], .int .i64 now]) (by simp [results, Try.results7, go_sem, hcA2, hfA2]) rfl ⟨A, N, c, ds, now, rfl, hFA.weak (fun q hq => Or.inl (by have : q < w.heap.size := hq; omega)), ?_⟩
    exact (hbw5.trans (hOg.below (B := w.heap.size) (by have := hbw5.size; omega) (fun q hq => by omega))).setCell (by simp; omega) _
end Go.Proofs.Ytcfhnhhgnophhaa

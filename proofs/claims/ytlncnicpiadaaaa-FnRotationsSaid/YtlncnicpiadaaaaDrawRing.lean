/- A drawn ring. -/
import Derived.Test.YtlncnicpiadaaaaDrawB
import Derived.Test.YtlncnicpiadaaaaKeyRing2
import Derived.Deep.AppendLies
set_option linter.unusedSimpArgs false
set_option linter.unusedVariables false
set_option maxRecDepth 20000
namespace Go.Proofs.Ytlncnicpiadaaaa
open Go.RowKit
theorem Out.newer {S : Nat → Prop} {a w : World} (h : Out S a w) {p : Addr} (hp : a.heap.size ≤ p.block) (u : Value) : Out S a (w.setCell p u) :=
  ⟨h.os, h.tape, h.output, by simpa using h.size, fun k hk hs => (Below.heap_setCell _ _ _ _ (by omega)).trans (h.block k hk hs)⟩
theorem own_in_ints {w : World} {base lo k c : Nat} {A : Option Addr} {xs : List Int} (hl : xs.length = k) (h : w.ownsRow base 3 1 (.slice A k c) k (xs.map intV)) (hb : lo ≤ base) : SlOwn intR 3 w (InR lo w.heap.size) (.slice A k c) xs := by
  subst hl
  exact of_own_in_IntS (own_base h hb)
set_option maxHeartbeats 3200000 in
theorem spec_l04DrawRing (g : Nat) (w : World) (hc : Cur w g) :
    Calls Try.prog 48 #[.pointer (some ⟨g, 0, none⟩)] w fun e w' => ∃ (v : Value) (r : KeyRing), e = .returned (.agg #[.int .i64 r.First, v]) ∧ r.Secrets.length ≤ 12 ∧ SlOwn intR 3 w' (InR w.heap.size w'.heap.size) v r.Secrets ∧ Cur w' g ∧ Out (fun q => q = g) w w' := by
  obtain ⟨j0, hj0, hJ0, hJ1, hJ2⟩ := info_parts info_int
  have hgl := hc.lt
  go_enter Try.func48, Try.ntmps48
  go_wp2_with fail
  have hb0 : Below w.heap.size w (w.alloc (.cells #[.int .i64 0, .slice none 0 0] 34)) := by (repeat (first | (with_reducible exact Below.refl _ _) | (with_reducible assumption) | ((with_reducible refine Below.setCell ?_ ?_ _); rotate_left; focus (first | omega | (simp; done) | (simp; omega))) | ((with_reducible refine Below.alloc ?_ ?_ _); rotate_left; focus (first | omega | (simp; done) | (simp; omega))) | (with_reducible refine Below.drew ?_) | (with_reducible refine below_drewN ?_ _) | (refine Below.trans ?_ (Below.mono (by with_reducible assumption) (by (first | omega | (simp; done) | (simp; omega)))))))
  refine (spec_l01Below g 90 _ (hc.below hb0) (by omega)).mono ?_
  rintro e w1 ⟨x, rfl, hx0, hx1, -, hd1⟩
  have hx := hx1 (by omega)
  have hs1 : w.heap.size + 1 ≤ w1.heap.size := by simpa using hd1.size
  have hb1 : Below w1.heap.size w1 (w1.alloc (.cells #[.int .i64 1, .int .i64 1, .int .i64 5, .int .i64 (1 + x), .int .i64 999990, .int .i64 1000000] 3)) := by (repeat (first | (with_reducible exact Below.refl _ _) | (with_reducible assumption) | ((with_reducible refine Below.setCell ?_ ?_ _); rotate_left; focus (first | omega | (simp; done) | (simp; omega))) | ((with_reducible refine Below.alloc ?_ ?_ _); rotate_left; focus (first | omega | (simp; done) | (simp; omega))) | (with_reducible refine Below.drew ?_) | (with_reducible refine below_drewN ?_ _) | (refine Below.trans ?_ (Below.mono (by with_reducible assumption) (by (first | omega | (simp; done) | (simp; omega)))))))
  go_wp2_with fail
  refine (spec_l01PickInt g _ _ [1, 1, 5, 1 + x, 999990, 1000000] (fun _ => True) _ (hd1.1.below hb1) (Reads.of_blk (t := 3) (cs := #[.int .i64 1, .int .i64 1, .int .i64 5, .int .i64 (1 + x), .int .i64 999990, .int .i64 1000000]) (Blk.new' rfl)) (fun b off hb => by simp only [Option.some.injEq, Addr.mk.injEq] at hb; omega) (by simp) (by simp) (fun _ _ => trivial)).mono ?_
  rintro e w2 ⟨first, rfl, -, hd2⟩
  have hs2 : w1.heap.size + 1 ≤ w2.heap.size := by simpa using hd2.size
  have B2 : Blk w2 w.heap.size 34 #[.int .i64 0, .slice none 0 0] := (((Blk.new w 34 #[.int .i64 0, .slice none 0 0]).out hd1.2 (by omega)).keep hb1).out hd2.2 (by omega)
  have hO2 : Out (fun q => q = g) w w2 := (((Out.of_below hb0).trans hd1.2).trans (Out.of_below hb1)).trans hd2.2
  have hb2 : Below w2.heap.size w2 (w2.alloc (.cells #[.int .i64 first, .slice none 0 0] 34)) := by (repeat (first | (with_reducible exact Below.refl _ _) | (with_reducible assumption) | ((with_reducible refine Below.setCell ?_ ?_ _); rotate_left; focus (first | omega | (simp; done) | (simp; omega))) | ((with_reducible refine Below.alloc ?_ ?_ _); rotate_left; focus (first | omega | (simp; done) | (simp; omega))) | (with_reducible refine Below.drew ?_) | (with_reducible refine below_drewN ?_ _) | (refine Below.trans ?_ (Below.mono (by with_reducible assumption) (by (first | omega | (simp; done) | (simp; omega)))))))
  have B3 : Blk (w2.alloc (.cells #[.int .i64 first, .slice none 0 0] 34)) w2.heap.size 34 #[.int .i64 first, .slice none 0 0] := Blk.new' rfl
  replace B2 := B2.keep hb2
  have hc2 := hd2.1.below hb2
  replace hO2 := hO2.trans (Out.of_below hb2)
  obtain ⟨b3, hb3e⟩ : ∃ b3, b3 = w2.heap.size := ⟨_, rfl⟩
  go_wp2_with fail
  rw [← hb3e] at B3 ⊢
  have hsA : b3 + 1 = (w2.alloc (.cells #[.int .i64 first, .slice none 0 0] 34)).heap.size := by simp [hb3e]
  have hbg : w.heap.size < b3 := by omega
  clear hb3e
  clear hb2
  generalize (w2.alloc (.cells #[.int .i64 first, .slice none 0 0] 34)) = wa at *
  refine (spec_l01Below g 5 _ hc2 (by omega)).mono ?_
  rintro e w4 ⟨y, rfl, hy0, hy1, -, hd4⟩
  have hy := hy1 (by omega)
  have hs4 := hd4.size
  replace B2 := B2.out hd4.2 (by omega)
  replace B3 := B3.out hd4.2 (by omega)
  replace hO2 := hO2.trans hd4.2
  go_wp2_with fail
  refine (spec_l01Once g 8 _ hd4.1 (by omega)).mono ?_
  rintro e w5 ⟨bb, rfl, hd5⟩
  have hs5 := hd5.size
  replace B2 := B2.out hd5.2 (by omega)
  replace B3 := B3.out hd5.2 (by omega)
  replace hO2 := hO2.trans hd5.2
  cases bb
  · go_wp2_with fail
    obtain ⟨N, hN⟩ : ∃ N : Nat, 1 + y = (N : Int) := ⟨(1 + y).toNat, by omega⟩
    have hN1 : 1 ≤ N := by omega
    have hN2 : N ≤ 12 := by omega
    rw [hN]
    have hcc := hd5.1
    clear hN hd5 hd4 hd2 hd1 hc2 hb1 hy1 hx1
    generalize w5 = wc at *
    go_loopw [5] (fun i wr => ∃ (k : Nat) (A1 : Option Addr) (c1 : Nat) (xs : List Int), k ≤ N ∧ i = .int .i64 k ∧ Hid (xs.length = k) ∧ Blk wr w.heap.size 34 #[.int .i64 0, .slice none 0 0] ∧ Blk wr b3 34 #[.int .i64 first, .slice A1 k c1] ∧ wr.ownsRow (b3 + 1) 3 1 (.slice A1 k c1) k (xs.map intV) ∧ Cur wr g ∧ Out (fun q => q = g) w wr) (fun i _ => N - (intOf i).toNat)
    case atStart => exact ⟨0, none, 0, [], Nat.zero_le _, rfl, rfl, B2, B3, World.ownsRow_nil _ _ _ _, hcc, hO2⟩
    case round =>
      obtain ⟨k, A1, c1, xs, hk, rfl, hxl, R2, R3, hown, hcr, hOr⟩ := hrel
      clear B2 B3 hcc hO2
      have hzr := R3.lt
      have hc3 := R3.drew.cell
      have hf3 := R3.drew.frozen
      have hc3' := R3.cell
      have hf3' := R3.frozen
      have hne : ∀ q, q < b3 + 1 → some q ≠ (Value.slice A1 k c1).ownBlock := fun q hq e => by have := (hown.lt _ e.symm).1; omega
      by_cases hlt : k < N
      · go_wp2_with fail
        go_region_law (first | (go_loud (refine step_append_lies _ (by rfl) _ _ _ (by rfl) (b3 + 1) 3 j0 _ 1 8 Try.underlying22 hj0 hJ0 hJ1 hJ2 rfl (by omega) (.slice A1 k c1) k _ (by rfl) (howA.alloc _) ⟨wA.heap.size, 0, none⟩ 1 1 [.int .i64 s] (by rfl) (by rfl) (World.news_of_block (cs := #[.int .i64 s]) (t := 3) (fr := (0, 0)) (heap_alloc_new wA _)) (by simp [Value.oneCell']) (by omega) (by simp only [maxLen]; omega) (by omega) (by simp; omega) (wA.heap.size + 1) (by simp) ?_; intro gg cap w9 hown1 hgrow hat hlt1; have BY := Blk.grown (RA3.alloc (.cells #[.int .i64 s] 3)) hgrow (hne _ (by omega)); have hcY := BY.cell; have hfY := BY.frozen)) | (go_simp; go_at_call 66; refine (spec_l04DrawGood g _ hcr.drew).mono ?_; rintro e wA ⟨s, rfl, hdA⟩; have hsA : wr.heap.size ≤ wA.heap.size := hdA.size; have RA3 := R3.drew.out hdA.2 (by omega); have hcA := RA3.cell; have hfA := RA3.frozen; have RA4 := RA3.alloc (.cells #[.int .i64 s] 3); have hcA4 := RA4.cell; have hfA4 := RA4.frozen; have howA := own_drawn (own_drew hown) hdA (by omega)))
        all_goals
          have hzg : wA.heap.size + 1 ≤ w9.heap.size := by simpa using hgrow.size
          have hlow : ∀ q, (Value.slice A1 k c1).ownBlock = some q → b3 + 1 ≤ q := fun q e => (hown.lt q e).1
          have RY2 := Blk.grown (((R2.drew.out hdA.2 (by omega)).alloc (.cells #[.int .i64 s] 3))) hgrow (hne _ (by omega))
          have hOY : Out (fun q => q = g) w w9 := Out.growR ((hOr.drew.trans hdA.2).alloc (.cells #[.int .i64 s] 3)) hgrow (fun q e => by have := hlow q e; omega)
          have hcY' : Cur w9 g := (hdA.1.below ((Below.refl _ wA).alloc (Nat.le_refl _) (.cells #[.int .i64 s] 3))).out (out_gr hgrow) (fun q e => by have := hlow q e; omega)
          go_wp2
          go_roundw
          case rel =>
            refine ⟨k + 1, some ⟨gg, 0, none⟩, cap, xs ++ [s], by omega, by go_num, Lib.hid (by rw [List.length_append, hxl.out]; rfl), ?_, ?_, ?_, ?_, ?_⟩
            · exact RY2.far (by simp; omega) _
            · have hB := BY.set_ 1 (.slice (some ⟨gg, 0, none⟩) (k + 1) cap)
              simpa using hB
            · refine own_setCell ?_ (by simp) _
              rw [List.map_append]; exact hown1
            · exact hcY'.out (out_set _ _ _ _) (fun q hq => by omega)
            · exact hOY.newer (by simp; omega) _
          case measure => simp [intOf]; omega
      · obtain rfl : k = N := by omega
        go_wp2_with fail
        refine (spec_l01Once g 20 _ hcr (by omega)).mono ?_
        rintro e w7 ⟨b7, rfl, hd7⟩
        have hs7 := hd7.size
        replace R2 := R2.out hd7.2 (by omega)
        replace R3 := R3.out hd7.2 (by omega)
        have ho7 := own_drawn hown hd7 (by omega)
        replace hOr := hOr.trans hd7.2
        clear hc3 hf3 hc3' hf3'
        have hc3 := R3.cell; have hf3 := R3.frozen; have hc2 := R2.cell; have hf2 := R2.frozen
        cases b7
        · go_wp2_with fail
          refine bodyPost_ret (v := .agg #[.int .i64 first, .slice A1 k c1]) (by simp [results, Try.results48, go_sem, hc2, hf2]) rfl ⟨.slice A1 k c1, ⟨first, xs⟩, rfl, (by have := hxl.out; simp only; omega), own_in_ints hxl.out (own_setCell (own_setCell ho7 (by simp; omega) _) (by simp; omega) _) (by omega), (hd7.1.out (out_set _ _ _ _) (fun q hq => by omega)).out (out_set _ _ _ _) (fun q hq => by omega), (hOr.newer (by simp) _).newer (by simp) _⟩
        · go_wp2_with fail
          refine (spec_l01Below g 3 _ hd7.1 (by omega)).mono ?_
          rintro e w8 ⟨p, rfl, hp0, hp1, -, hd8⟩
          have hp := hp1 (by omega)
          have hs8 := hd8.size
          replace R2 := R2.out hd8.2 (by omega)
          replace R3 := R3.out hd8.2 (by omega)
          have ho8 := own_drawn ho7 hd8 (by omega)
          replace hOr := hOr.trans hd8.2
          clear hc3 hf3 hc2 hf2
          have hc3 := R3.cell; have hf3 := R3.frozen; have hc2 := R2.cell; have hf2 := R2.frozen
          by_cases e0 : p = 0
          · subst e0
            go_wp2_with fail
            have hbL : Below w8.heap.size w8 (w8.alloc (.cells #[.int .i64 0, .int .i64 1000001, .int .i64 (-1)] 3)) := by (repeat (first | (with_reducible exact Below.refl _ _) | (with_reducible assumption) | ((with_reducible refine Below.setCell ?_ ?_ _); rotate_left; focus (first | omega | (simp; done) | (simp; omega))) | ((with_reducible refine Below.alloc ?_ ?_ _); rotate_left; focus (first | omega | (simp; done) | (simp; omega))) | (with_reducible refine Below.drew ?_) | (with_reducible refine below_drewN ?_ _) | (refine Below.trans ?_ (Below.mono (by with_reducible assumption) (by (first | omega | (simp; done) | (simp; omega)))))))
            refine (spec_l01PickInt g _ _ [0, 1000001, -1] (fun _ => True) _ (hd8.1.below hbL) (Reads.of_blk (t := 3) (cs := #[.int .i64 0, .int .i64 1000001, .int .i64 (-1)]) (Blk.new' rfl)) (fun b off hb => by simp only [Option.some.injEq, Addr.mk.injEq] at hb; omega) (by simp) (by simp) (fun _ _ => trivial)).mono ?_
            rintro e wB ⟨nf, rfl, -, hdB⟩
            have hsB : w8.heap.size + 1 ≤ wB.heap.size := by simpa using hdB.size
            replace R2 := (R2.keep hbL).out hdB.2 (by omega)
            replace R3 := (R3.keep hbL).out hdB.2 (by omega)
            have hoB := own_drawn (own_below ho8 hbL) hdB (by omega)
            replace hOr := (hOr.trans (Out.of_below hbL)).trans hdB.2
            clear hc3 hf3 hc2 hf2
            have hc3 := R3.cell; have hf3 := R3.frozen
            have hc2 := (R2.far (p := ⟨b3, 0, none⟩) (by simp; omega) (.int .i64 nf)).cell
            have hf2 := (R2.far (p := ⟨b3, 0, none⟩) (by simp; omega) (.int .i64 nf)).frozen
            go_wp2_with fail
            refine bodyPost_ret (v := .agg #[.int .i64 nf, .slice A1 k c1]) (by simp [results, Try.results48, go_sem, hc2, hf2]) rfl ⟨.slice A1 k c1, ⟨nf, xs⟩, rfl, (by have := hxl.out; simp only; omega), own_in_ints hxl.out (own_setCell (own_setCell (own_setCell hoB (by simp) _) (by simp; omega) _) (by simp; omega) _) (by omega), ((hdB.1.out (out_set _ _ _ _) (fun q hq => by omega)).out (out_set _ _ _ _) (fun q hq => by omega)).out (out_set _ _ _ _) (fun q hq => by omega), ((hOr.newer (by simp; omega) _).newer (by simp) _).newer (by simp) _⟩
          · by_cases e1 : p = 1
            · subst e1
              have hc2' := (R2.far (p := ⟨b3, 1, none⟩) (by simp; omega) (.slice none 0 0)).cell
              have hf2' := (R2.far (p := ⟨b3, 1, none⟩) (by simp; omega) (.slice none 0 0)).frozen
              go_wp2_with fail
              refine bodyPost_ret (v := .agg #[.int .i64 first, .slice none 0 0]) (by simp [results, Try.results48, go_sem, hc2', hf2']) rfl ⟨.slice none 0 0, ⟨first, []⟩, rfl, (by simp), own_in_ints rfl (own_setCell (own_setCell (World.ownsRow_nil _ _ _ _) (by simp; omega) _) (by simp; omega) _) (by omega), ((hd8.1.out (out_set _ _ _ _) (fun q hq => by omega)).out (out_set _ _ _ _) (fun q hq => by omega)).out (out_set _ _ _ _) (fun q hq => by omega), ((hOr.newer (by simp; omega) _).newer (by simp) _).newer (by simp) _⟩
            · obtain rfl : p = 2 := by omega
              obtain ⟨gq, cq, hv, hq1, hq2⟩ := ho8.form (by omega)
              simp only [Value.slice.injEq, true_and] at hv
              obtain ⟨rfl, rfl⟩ := hv
              have hk0 : (0 : Int) < (k : Int) := by omega
              have hkn : ¬ (k : Int) ≤ 0 := by omega
              have hk1 : 0 < k := by omega
              have hcL := (R3.alloc (.cells #[.int .i64 (-1), .int .i64 1099511627777] 3)).cell
              have hcLd := (R3.alloc (.cells #[.int .i64 (-1), .int .i64 1099511627777] 3)).drew.cell
              go_wp2_with fail
              go_region_law (first | (go_simp; go_at_call 63; refine (spec_l01PickInt g _ _ [-1, 1099511627777] (fun _ => True) _ (hd8.1.below (by (repeat (first | (with_reducible exact Below.refl _ _) | (with_reducible assumption) | ((with_reducible refine Below.setCell ?_ ?_ _); rotate_left; focus (first | omega | (simp; done) | (simp; omega))) | ((with_reducible refine Below.alloc ?_ ?_ _); rotate_left; focus (first | omega | (simp; done) | (simp; omega))) | (with_reducible refine Below.drew ?_) | (with_reducible refine below_drewN ?_ _) | (refine Below.trans ?_ (Below.mono (by with_reducible assumption) (by (first | omega | (simp; done) | (simp; omega))))))))) (Reads.of_blk (t := 3) (cs := #[.int .i64 (-1), .int .i64 1099511627777]) (by (repeat (first | (with_reducible assumption) | ((with_reducible refine Blk.new' ?_); focus (simp; done)) | (with_reducible refine Blk.alloc ?_ _) | (with_reducible refine Blk.drew ?_) | (with_reducible refine Blk.drewN ?_ _) | ((with_reducible refine Blk.far ?_ ?_ _); rotate_left; focus (first | omega | (simp; done) | (simp; omega))) | (refine Blk.keep ?_ (by with_reducible assumption)) | (refine Blk.below ?_ (by with_reducible assumption) (by (first | omega | (simp; done) | (simp; omega)))))))) (fun b off hb => by simp only [Option.some.injEq, Addr.mk.injEq] at hb; omega) (by simp) (by simp) (fun _ _ => trivial)).mono ?_; rintro e wB ⟨nf, rfl, -, hdB⟩; have hsB : w8.heap.size + 1 ≤ wB.heap.size := (by simpa using hdB.size); have hoB : wB.ownsRow (b3 + 1) 3 1 (.slice (some ⟨gq, 0, none⟩) k c1) k (xs.map intV) := (own_drawn (by (repeat (first | (with_reducible exact ho8) | ((with_reducible refine own_setCell ?_ ?_ _); rotate_left; focus (first | omega | (simp; done) | (simp; omega))) | (with_reducible refine World.ownsRow.alloc ?_ _) | (with_reducible refine own_drew ?_) | (with_reducible refine own_drewN ?_ _) | (refine own_below ?_ (by with_reducible assumption))))) hdB (by omega)); have R2B : Blk wB w.heap.size 34 #[.int .i64 0, .slice none 0 0] := (Blk.out (by (repeat (first | (with_reducible assumption) | ((with_reducible refine Blk.new' ?_); focus (simp; done)) | (with_reducible refine Blk.alloc ?_ _) | (with_reducible refine Blk.drew ?_) | (with_reducible refine Blk.drewN ?_ _) | ((with_reducible refine Blk.far ?_ ?_ _); rotate_left; focus (first | omega | (simp; done) | (simp; omega))) | (refine Blk.keep ?_ (by with_reducible assumption)) | (refine Blk.below ?_ (by with_reducible assumption) (by (first | omega | (simp; done) | (simp; omega))))))) hdB.2 (by omega)); have R3B : Blk wB b3 34 #[.int .i64 first, .slice (some ⟨gq, 0, none⟩) k c1] := (Blk.out (by (repeat (first | (with_reducible assumption) | ((with_reducible refine Blk.new' ?_); focus (simp; done)) | (with_reducible refine Blk.alloc ?_ _) | (with_reducible refine Blk.drew ?_) | (with_reducible refine Blk.drewN ?_ _) | ((with_reducible refine Blk.far ?_ ?_ _); rotate_left; focus (first | omega | (simp; done) | (simp; omega))) | (refine Blk.keep ?_ (by with_reducible assumption)) | (refine Blk.below ?_ (by with_reducible assumption) (by (first | omega | (simp; done) | (simp; omega))))))) hdB.2 (by omega)); have hq0 := hoB.cellAt 0 (by omega); have hqf := hoB.frozenAt 0; have hcB3 := R3B.cell; have hOB : Out (fun q => q = g) w wB := (Out.trans (Out.trans hOr (Out.of_below (by (repeat (first | (with_reducible exact Below.refl _ _) | (with_reducible assumption) | ((with_reducible refine Below.setCell ?_ ?_ _); rotate_left; focus (first | omega | (simp; done) | (simp; omega))) | ((with_reducible refine Below.alloc ?_ ?_ _); rotate_left; focus (first | omega | (simp; done) | (simp; omega))) | (with_reducible refine Below.drew ?_) | (with_reducible refine below_drewN ?_ _) | (refine Below.trans ?_ (Below.mono (by with_reducible assumption) (by (first | omega | (simp; done) | (simp; omega)))))))))) hdB.2); rw [List.getElem?_map, List.getElem?_eq_getElem (by rw [hxl.out]; exact hk1)] at hq0; simp only [Option.map_some, intV] at hq0))
              all_goals
                have hst := (hoB.stored 0 (.int .i64 nf)).1
                rw [show (xs.map intV).set 0 (.int .i64 nf) = (xs.set 0 nf).map intV from by rw [List.map_set]; rfl] at hst
                have hq3 : b3 + 1 ≤ gq := hq1
                have hc2' := (R2B.far (p := ⟨gq, 0, none⟩) (by simp; omega) (.int .i64 nf)).cell
                have hf2' := (R2B.far (p := ⟨gq, 0, none⟩) (by simp; omega) (.int .i64 nf)).frozen
                have hc3' := (R3B.far (p := ⟨gq, 0, none⟩) (by simp; omega) (.int .i64 nf)).cell
                go_wp2_with fail
                refine bodyPost_ret (v := .agg #[.int .i64 first, .slice (some ⟨gq, 0, none⟩) k c1]) (by simp [results, Try.results48, go_sem, hc2', hf2']) rfl ⟨.slice (some ⟨gq, 0, none⟩) k c1, ⟨first, (xs.set 0 nf)⟩, rfl, (by rw [List.length_set]; have := hxl.out; omega), own_in_ints (by rw [List.length_set]; exact hxl.out) (own_setCell (own_setCell hst (by simp; omega) _) (by simp; omega) _) (by omega), ((hdB.1.out (out_set _ _ _ _) (fun q hq => by omega)).out (out_set _ _ _ _) (fun q hq => by omega)).out (out_set _ _ _ _) (fun q hq => by omega), ((hOB.newer (by simp; omega) _).newer (by simp) _).newer (by simp) _⟩
  · go_wp2_with fail
    refine (spec_l01Below g 2 _ hd5.1 (by omega)).mono ?_
    rintro e w6 ⟨z, rfl, hz0, hz1, -, hd6⟩
    have hz := hz1 (by omega)
    have hs6 := hd6.size
    replace B2 := B2.out hd6.2 (by omega)
    replace B3 := B3.out hd6.2 (by omega)
    replace hO2 := hO2.trans hd6.2
    go_wp2_with fail
    obtain ⟨N, hN⟩ : ∃ N : Nat, 11 + z = (N : Int) := ⟨(11 + z).toNat, by omega⟩
    have hN1 : 1 ≤ N := by omega
    have hN2 : N ≤ 12 := by omega
    rw [hN]
    have hcc := hd6.1
    clear hN hd6 hd5 hd4 hd2 hd1 hc2 hb1 hy1 hx1 hz1
    generalize w6 = wc at *
    go_loopw [5] (fun i wr => ∃ (k : Nat) (A1 : Option Addr) (c1 : Nat) (xs : List Int), k ≤ N ∧ i = .int .i64 k ∧ Hid (xs.length = k) ∧ Blk wr w.heap.size 34 #[.int .i64 0, .slice none 0 0] ∧ Blk wr b3 34 #[.int .i64 first, .slice A1 k c1] ∧ wr.ownsRow (b3 + 1) 3 1 (.slice A1 k c1) k (xs.map intV) ∧ Cur wr g ∧ Out (fun q => q = g) w wr) (fun i _ => N - (intOf i).toNat)
    case atStart => exact ⟨0, none, 0, [], Nat.zero_le _, rfl, rfl, B2, B3, World.ownsRow_nil _ _ _ _, hcc, hO2⟩
    case round =>
      obtain ⟨k, A1, c1, xs, hk, rfl, hxl, R2, R3, hown, hcr, hOr⟩ := hrel
      clear B2 B3 hcc hO2
      have hzr := R3.lt
      have hc3 := R3.drew.cell
      have hf3 := R3.drew.frozen
      have hc3' := R3.cell
      have hf3' := R3.frozen
      have hne : ∀ q, q < b3 + 1 → some q ≠ (Value.slice A1 k c1).ownBlock := fun q hq e => by have := (hown.lt _ e.symm).1; omega
      by_cases hlt : k < N
      · go_wp2_with fail
        go_region_law (first | (go_loud (refine step_append_lies _ (by rfl) _ _ _ (by rfl) (b3 + 1) 3 j0 _ 1 8 Try.underlying22 hj0 hJ0 hJ1 hJ2 rfl (by omega) (.slice A1 k c1) k _ (by rfl) (howA.alloc _) ⟨wA.heap.size, 0, none⟩ 1 1 [.int .i64 s] (by rfl) (by rfl) (World.news_of_block (cs := #[.int .i64 s]) (t := 3) (fr := (0, 0)) (heap_alloc_new wA _)) (by simp [Value.oneCell']) (by omega) (by simp only [maxLen]; omega) (by omega) (by simp; omega) (wA.heap.size + 1) (by simp) ?_; intro gg cap w9 hown1 hgrow hat hlt1; have BY := Blk.grown (RA3.alloc (.cells #[.int .i64 s] 3)) hgrow (hne _ (by omega)); have hcY := BY.cell; have hfY := BY.frozen)) | (go_simp; go_at_call 66; refine (spec_l04DrawGood g _ hcr.drew).mono ?_; rintro e wA ⟨s, rfl, hdA⟩; have hsA : wr.heap.size ≤ wA.heap.size := hdA.size; have RA3 := R3.drew.out hdA.2 (by omega); have hcA := RA3.cell; have hfA := RA3.frozen; have RA4 := RA3.alloc (.cells #[.int .i64 s] 3); have hcA4 := RA4.cell; have hfA4 := RA4.frozen; have howA := own_drawn (own_drew hown) hdA (by omega)))
        all_goals
          have hzg : wA.heap.size + 1 ≤ w9.heap.size := by simpa using hgrow.size
          have hlow : ∀ q, (Value.slice A1 k c1).ownBlock = some q → b3 + 1 ≤ q := fun q e => (hown.lt q e).1
          have RY2 := Blk.grown (((R2.drew.out hdA.2 (by omega)).alloc (.cells #[.int .i64 s] 3))) hgrow (hne _ (by omega))
          have hOY : Out (fun q => q = g) w w9 := Out.growR ((hOr.drew.trans hdA.2).alloc (.cells #[.int .i64 s] 3)) hgrow (fun q e => by have := hlow q e; omega)
          have hcY' : Cur w9 g := (hdA.1.below ((Below.refl _ wA).alloc (Nat.le_refl _) (.cells #[.int .i64 s] 3))).out (out_gr hgrow) (fun q e => by have := hlow q e; omega)
          go_wp2
          go_roundw
          case rel =>
            refine ⟨k + 1, some ⟨gg, 0, none⟩, cap, xs ++ [s], by omega, by go_num, Lib.hid (by rw [List.length_append, hxl.out]; rfl), ?_, ?_, ?_, ?_, ?_⟩
            · exact RY2.far (by simp; omega) _
            · have hB := BY.set_ 1 (.slice (some ⟨gg, 0, none⟩) (k + 1) cap)
              simpa using hB
            · refine own_setCell ?_ (by simp) _
              rw [List.map_append]; exact hown1
            · exact hcY'.out (out_set _ _ _ _) (fun q hq => by omega)
            · exact hOY.newer (by simp; omega) _
          case measure => simp [intOf]; omega
      · obtain rfl : k = N := by omega
        go_wp2_with fail
        refine (spec_l01Once g 20 _ hcr (by omega)).mono ?_
        rintro e w7 ⟨b7, rfl, hd7⟩
        have hs7 := hd7.size
        replace R2 := R2.out hd7.2 (by omega)
        replace R3 := R3.out hd7.2 (by omega)
        have ho7 := own_drawn hown hd7 (by omega)
        replace hOr := hOr.trans hd7.2
        clear hc3 hf3 hc3' hf3'
        have hc3 := R3.cell; have hf3 := R3.frozen; have hc2 := R2.cell; have hf2 := R2.frozen
        cases b7
        · go_wp2_with fail
          refine bodyPost_ret (v := .agg #[.int .i64 first, .slice A1 k c1]) (by simp [results, Try.results48, go_sem, hc2, hf2]) rfl ⟨.slice A1 k c1, ⟨first, xs⟩, rfl, (by have := hxl.out; simp only; omega), own_in_ints hxl.out (own_setCell (own_setCell ho7 (by simp; omega) _) (by simp; omega) _) (by omega), (hd7.1.out (out_set _ _ _ _) (fun q hq => by omega)).out (out_set _ _ _ _) (fun q hq => by omega), (hOr.newer (by simp) _).newer (by simp) _⟩
        · go_wp2_with fail
          refine (spec_l01Below g 3 _ hd7.1 (by omega)).mono ?_
          rintro e w8 ⟨p, rfl, hp0, hp1, -, hd8⟩
          have hp := hp1 (by omega)
          have hs8 := hd8.size
          replace R2 := R2.out hd8.2 (by omega)
          replace R3 := R3.out hd8.2 (by omega)
          have ho8 := own_drawn ho7 hd8 (by omega)
          replace hOr := hOr.trans hd8.2
          clear hc3 hf3 hc2 hf2
          have hc3 := R3.cell; have hf3 := R3.frozen; have hc2 := R2.cell; have hf2 := R2.frozen
          by_cases e0 : p = 0
          · subst e0
            go_wp2_with fail
            have hbL : Below w8.heap.size w8 (w8.alloc (.cells #[.int .i64 0, .int .i64 1000001, .int .i64 (-1)] 3)) := by (repeat (first | (with_reducible exact Below.refl _ _) | (with_reducible assumption) | ((with_reducible refine Below.setCell ?_ ?_ _); rotate_left; focus (first | omega | (simp; done) | (simp; omega))) | ((with_reducible refine Below.alloc ?_ ?_ _); rotate_left; focus (first | omega | (simp; done) | (simp; omega))) | (with_reducible refine Below.drew ?_) | (with_reducible refine below_drewN ?_ _) | (refine Below.trans ?_ (Below.mono (by with_reducible assumption) (by (first | omega | (simp; done) | (simp; omega)))))))
            refine (spec_l01PickInt g _ _ [0, 1000001, -1] (fun _ => True) _ (hd8.1.below hbL) (Reads.of_blk (t := 3) (cs := #[.int .i64 0, .int .i64 1000001, .int .i64 (-1)]) (Blk.new' rfl)) (fun b off hb => by simp only [Option.some.injEq, Addr.mk.injEq] at hb; omega) (by simp) (by simp) (fun _ _ => trivial)).mono ?_
            rintro e wB ⟨nf, rfl, -, hdB⟩
            have hsB : w8.heap.size + 1 ≤ wB.heap.size := by simpa using hdB.size
            replace R2 := (R2.keep hbL).out hdB.2 (by omega)
            replace R3 := (R3.keep hbL).out hdB.2 (by omega)
            have hoB := own_drawn (own_below ho8 hbL) hdB (by omega)
            replace hOr := (hOr.trans (Out.of_below hbL)).trans hdB.2
            clear hc3 hf3 hc2 hf2
            have hc3 := R3.cell; have hf3 := R3.frozen
            have hc2 := (R2.far (p := ⟨b3, 0, none⟩) (by simp; omega) (.int .i64 nf)).cell
            have hf2 := (R2.far (p := ⟨b3, 0, none⟩) (by simp; omega) (.int .i64 nf)).frozen
            go_wp2_with fail
            refine bodyPost_ret (v := .agg #[.int .i64 nf, .slice A1 k c1]) (by simp [results, Try.results48, go_sem, hc2, hf2]) rfl ⟨.slice A1 k c1, ⟨nf, xs⟩, rfl, (by have := hxl.out; simp only; omega), own_in_ints hxl.out (own_setCell (own_setCell (own_setCell hoB (by simp) _) (by simp; omega) _) (by simp; omega) _) (by omega), ((hdB.1.out (out_set _ _ _ _) (fun q hq => by omega)).out (out_set _ _ _ _) (fun q hq => by omega)).out (out_set _ _ _ _) (fun q hq => by omega), ((hOr.newer (by simp; omega) _).newer (by simp) _).newer (by simp) _⟩
          · by_cases e1 : p = 1
            · subst e1
              have hc2' := (R2.far (p := ⟨b3, 1, none⟩) (by simp; omega) (.slice none 0 0)).cell
              have hf2' := (R2.far (p := ⟨b3, 1, none⟩) (by simp; omega) (.slice none 0 0)).frozen
              go_wp2_with fail
              refine bodyPost_ret (v := .agg #[.int .i64 first, .slice none 0 0]) (by simp [results, Try.results48, go_sem, hc2', hf2']) rfl ⟨.slice none 0 0, ⟨first, []⟩, rfl, (by simp), own_in_ints rfl (own_setCell (own_setCell (World.ownsRow_nil _ _ _ _) (by simp; omega) _) (by simp; omega) _) (by omega), ((hd8.1.out (out_set _ _ _ _) (fun q hq => by omega)).out (out_set _ _ _ _) (fun q hq => by omega)).out (out_set _ _ _ _) (fun q hq => by omega), ((hOr.newer (by simp; omega) _).newer (by simp) _).newer (by simp) _⟩
            · obtain rfl : p = 2 := by omega
              obtain ⟨gq, cq, hv, hq1, hq2⟩ := ho8.form (by omega)
              simp only [Value.slice.injEq, true_and] at hv
              obtain ⟨rfl, rfl⟩ := hv
              have hk0 : (0 : Int) < (k : Int) := by omega
              have hkn : ¬ (k : Int) ≤ 0 := by omega
              have hk1 : 0 < k := by omega
              have hcL := (R3.alloc (.cells #[.int .i64 (-1), .int .i64 1099511627777] 3)).cell
              have hcLd := (R3.alloc (.cells #[.int .i64 (-1), .int .i64 1099511627777] 3)).drew.cell
              go_wp2_with fail
              go_region_law (first | (go_simp; go_at_call 63; refine (spec_l01PickInt g _ _ [-1, 1099511627777] (fun _ => True) _ (hd8.1.below (by (repeat (first | (with_reducible exact Below.refl _ _) | (with_reducible assumption) | ((with_reducible refine Below.setCell ?_ ?_ _); rotate_left; focus (first | omega | (simp; done) | (simp; omega))) | ((with_reducible refine Below.alloc ?_ ?_ _); rotate_left; focus (first | omega | (simp; done) | (simp; omega))) | (with_reducible refine Below.drew ?_) | (with_reducible refine below_drewN ?_ _) | (refine Below.trans ?_ (Below.mono (by with_reducible assumption) (by (first | omega | (simp; done) | (simp; omega))))))))) (Reads.of_blk (t := 3) (cs := #[.int .i64 (-1), .int .i64 1099511627777]) (by (repeat (first | (with_reducible assumption) | ((with_reducible refine Blk.new' ?_); focus (simp; done)) | (with_reducible refine Blk.alloc ?_ _) | (with_reducible refine Blk.drew ?_) | (with_reducible refine Blk.drewN ?_ _) | ((with_reducible refine Blk.far ?_ ?_ _); rotate_left; focus (first | omega | (simp; done) | (simp; omega))) | (refine Blk.keep ?_ (by with_reducible assumption)) | (refine Blk.below ?_ (by with_reducible assumption) (by (first | omega | (simp; done) | (simp; omega)))))))) (fun b off hb => by simp only [Option.some.injEq, Addr.mk.injEq] at hb; omega) (by simp) (by simp) (fun _ _ => trivial)).mono ?_; rintro e wB ⟨nf, rfl, -, hdB⟩; have hsB : w8.heap.size + 1 ≤ wB.heap.size := (by simpa using hdB.size); have hoB : wB.ownsRow (b3 + 1) 3 1 (.slice (some ⟨gq, 0, none⟩) k c1) k (xs.map intV) := (own_drawn (by (repeat (first | (with_reducible exact ho8) | ((with_reducible refine own_setCell ?_ ?_ _); rotate_left; focus (first | omega | (simp; done) | (simp; omega))) | (with_reducible refine World.ownsRow.alloc ?_ _) | (with_reducible refine own_drew ?_) | (with_reducible refine own_drewN ?_ _) | (refine own_below ?_ (by with_reducible assumption))))) hdB (by omega)); have R2B : Blk wB w.heap.size 34 #[.int .i64 0, .slice none 0 0] := (Blk.out (by (repeat (first | (with_reducible assumption) | ((with_reducible refine Blk.new' ?_); focus (simp; done)) | (with_reducible refine Blk.alloc ?_ _) | (with_reducible refine Blk.drew ?_) | (with_reducible refine Blk.drewN ?_ _) | ((with_reducible refine Blk.far ?_ ?_ _); rotate_left; focus (first | omega | (simp; done) | (simp; omega))) | (refine Blk.keep ?_ (by with_reducible assumption)) | (refine Blk.below ?_ (by with_reducible assumption) (by (first | omega | (simp; done) | (simp; omega))))))) hdB.2 (by omega)); have R3B : Blk wB b3 34 #[.int .i64 first, .slice (some ⟨gq, 0, none⟩) k c1] := (Blk.out (by (repeat (first | (with_reducible assumption) | ((with_reducible refine Blk.new' ?_); focus (simp; done)) | (with_reducible refine Blk.alloc ?_ _) | (with_reducible refine Blk.drew ?_) | (with_reducible refine Blk.drewN ?_ _) | ((with_reducible refine Blk.far ?_ ?_ _); rotate_left; focus (first | omega | (simp; done) | (simp; omega))) | (refine Blk.keep ?_ (by with_reducible assumption)) | (refine Blk.below ?_ (by with_reducible assumption) (by (first | omega | (simp; done) | (simp; omega))))))) hdB.2 (by omega)); have hq0 := hoB.cellAt 0 (by omega); have hqf := hoB.frozenAt 0; have hcB3 := R3B.cell; have hOB : Out (fun q => q = g) w wB := (Out.trans (Out.trans hOr (Out.of_below (by (repeat (first | (with_reducible exact Below.refl _ _) | (with_reducible assumption) | ((with_reducible refine Below.setCell ?_ ?_ _); rotate_left; focus (first | omega | (simp; done) | (simp; omega))) | ((with_reducible refine Below.alloc ?_ ?_ _); rotate_left; focus (first | omega | (simp; done) | (simp; omega))) | (with_reducible refine Below.drew ?_) | (with_reducible refine below_drewN ?_ _) | (refine Below.trans ?_ (Below.mono (by with_reducible assumption) (by (first | omega | (simp; done) | (simp; omega)))))))))) hdB.2); rw [List.getElem?_map, List.getElem?_eq_getElem (by rw [hxl.out]; exact hk1)] at hq0; simp only [Option.map_some, intV] at hq0))
              all_goals
                have hst := (hoB.stored 0 (.int .i64 nf)).1
                rw [show (xs.map intV).set 0 (.int .i64 nf) = (xs.set 0 nf).map intV from by rw [List.map_set]; rfl] at hst
                have hq3 : b3 + 1 ≤ gq := hq1
                have hc2' := (R2B.far (p := ⟨gq, 0, none⟩) (by simp; omega) (.int .i64 nf)).cell
                have hf2' := (R2B.far (p := ⟨gq, 0, none⟩) (by simp; omega) (.int .i64 nf)).frozen
                have hc3' := (R3B.far (p := ⟨gq, 0, none⟩) (by simp; omega) (.int .i64 nf)).cell
                go_wp2_with fail
                refine bodyPost_ret (v := .agg #[.int .i64 first, .slice (some ⟨gq, 0, none⟩) k c1]) (by simp [results, Try.results48, go_sem, hc2', hf2']) rfl ⟨.slice (some ⟨gq, 0, none⟩) k c1, ⟨first, (xs.set 0 nf)⟩, rfl, (by rw [List.length_set]; have := hxl.out; omega), own_in_ints (by rw [List.length_set]; exact hxl.out) (own_setCell (own_setCell hst (by simp; omega) _) (by simp; omega) _) (by omega), ((hdB.1.out (out_set _ _ _ _) (fun q hq => by omega)).out (out_set _ _ _ _) (fun q hq => by omega)).out (out_set _ _ _ _) (fun q hq => by omega), ((hOB.newer (by simp; omega) _).newer (by simp) _).newer (by simp) _⟩
end Go.Proofs.Ytlncnicpiadaaaa

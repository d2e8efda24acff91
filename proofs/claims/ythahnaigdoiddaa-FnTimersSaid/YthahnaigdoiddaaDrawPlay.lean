/- What DrawPlayClock of the reference draws. -/
import Derived.Test.YthahnaigdoiddaaCur
import Derived.Test.YthahnaigdoiddaaTimer
import Derived.Test.YthahnaigdoiddaaClockOpS2
import Derived.Deep.AppendLies
set_option linter.unusedSimpArgs false
set_option linter.unusedVariables false
set_option maxRecDepth 20000
namespace Go.Proofs.Ythahnaigdoiddaa
open Go.RowKit
variable {B : Nat}
theorem timers_int (ts : List Timer) : ∀ u ∈ ts.flatMap Timer.cells, ∃ a, u = .int .i64 a := by
  intro u hu
  obtain ⟨t, -, ht⟩ := List.mem_flatMap.1 hu
  simp only [Timer.cells, List.mem_cons, List.not_mem_nil, or_false] at ht
  rcases ht with rfl | rfl
  · exact ⟨_, rfl⟩
  · exact ⟨_, rfl⟩
theorem row_int {w : World} {base gq n c i : Nat} {e : TypeId} {ts : List Timer} (h : w.ownsRow base e 2 (.slice (some ⟨gq, 0, none⟩) n c) n (ts.flatMap Timer.cells)) (hi : i < n * 2) : ∃ a, w.cell? ⟨gq, i, none⟩ = some (.int .i64 a) := by
  have hl := h.1
  have hc := h.cellAt i hi
  rw [List.getElem?_eq_getElem (by omega)] at hc
  obtain ⟨a, ha⟩ := timers_int ts _ (List.getElem_mem (by omega : i < (ts.flatMap Timer.cells).length))
  exact ⟨a, by rw [hc, ha]⟩
set_option maxHeartbeats 3200000 in
theorem spec_l07DrawClock (g N : Nat) (w : World) (hc : Cur B w g) (hn : N ≤ 301) :
    Calls Try.prog 31 #[.pointer (some ⟨g, 0, none⟩), .int .i64 N] w fun e w' => ∃ (now : Int) (A : Option Addr) (n c : Nat), e = .returned (.agg #[.int .i64 now, .slice A n c]) ∧ Cur B w' g ∧ Out (fun q => q = g) w w' := by
  obtain ⟨i0, hi0, hI0, hI1, hI2⟩ := info_parts info_Timer
  have hgl := hc.lt
  have hBg := hc.le
  go_enter Try.func31, Try.ntmps31
  go_wp2_with fail
  have hb0 : Below w.heap.size w (w.alloc (.cells #[.int .i64 0, .slice none 0 0] 26)) := by (repeat (first | (with_reducible exact Below.refl _ _) | (with_reducible assumption) | ((with_reducible refine Below.setCell ?_ ?_ _); rotate_left; focus (first | omega | (simp; done) | (simp; omega))) | ((with_reducible refine Below.alloc ?_ ?_ _); rotate_left; focus (first | omega | (simp; done) | (simp; omega))) | (with_reducible refine Below.drew ?_) | (with_reducible refine below_drewN ?_ _) | (refine Below.trans ?_ (Below.mono (by with_reducible assumption) (by (first | omega | (simp; done) | (simp; omega)))))))
  refine (spec_l01Below g 200 _ (hc.below hb0) (by omega)).mono ?_
  rintro e w1 ⟨x, rfl, hx0, hx1, -, hd1⟩
  have hs1 : w.heap.size + 1 ≤ w1.heap.size := by simpa using hd1.size
  go_wp2_with fail
  refine (spec_pickLit g w1 [0, 5, 50, x] hd1.1 (by simp) (by simp)).mono ?_
  rintro e w2 ⟨now, rfl, -, hc2, hO2, hs2⟩
  have B2 : Blk w2 w.heap.size 26 #[.int .i64 0, .slice none 0 0] := ((Blk.new w 26 #[.int .i64 0, .slice none 0 0]).out hd1.2 (by omega)).out hO2 (by omega)
  have hOw : Out (fun q => q = g) w w2 := ((Out.of_below hb0).trans hd1.2).trans hO2
  have hb2 : Below w2.heap.size w2 (w2.alloc (.cells #[.int .i64 now, .slice none 0 0] 26)) := by (repeat (first | (with_reducible exact Below.refl _ _) | (with_reducible assumption) | ((with_reducible refine Below.setCell ?_ ?_ _); rotate_left; focus (first | omega | (simp; done) | (simp; omega))) | ((with_reducible refine Below.alloc ?_ ?_ _); rotate_left; focus (first | omega | (simp; done) | (simp; omega))) | (with_reducible refine Below.drew ?_) | (with_reducible refine below_drewN ?_ _) | (refine Below.trans ?_ (Below.mono (by with_reducible assumption) (by (first | omega | (simp; done) | (simp; omega)))))))
  have B3 : Blk (w2.alloc (.cells #[.int .i64 now, .slice none 0 0] 26)) w2.heap.size 26 #[.int .i64 now, .slice none 0 0] := Blk.new' rfl
  replace B2 := B2.keep hb2
  replace hc2 := hc2.below hb2
  replace hOw := hOw.trans (Out.of_below hb2)
  obtain ⟨b3, hb3e⟩ : ∃ b3, b3 = w2.heap.size := ⟨_, rfl⟩
  go_wp2_with fail
  rw [← hb3e] at B3 ⊢
  have hsA : b3 + 1 = (w2.alloc (.cells #[.int .i64 now, .slice none 0 0] 26)).heap.size := by simp [hb3e]
  have hbg : w.heap.size < b3 := by omega
  clear hb3e hb2
  generalize (w2.alloc (.cells #[.int .i64 now, .slice none 0 0] 26)) = wa at *
  have hc3 := B3.cell
  have hzw : w.heap.size ≤ wa.heap.size := by omega
  go_wp2_with fail
  clear hc3 hO2 hd1 hx1
  go_loopw [6, 7] (fun at_ i wr => ∃ (k : Nat) (y : Int) (A1 : Option Addr) (c1 : Nat) (ts : List Timer), k ≤ N ∧ at_ = .int .i64 y ∧ i = .int .i64 k ∧ Blk wr w.heap.size 26 #[.int .i64 0, .slice none 0 0] ∧ Blk wr b3 26 #[.int .i64 now, .slice A1 k c1] ∧ wr.ownsRow (b3 + 1) 52 2 (.slice A1 k c1) k (ts.flatMap Timer.cells) ∧ Cur B wr g ∧ Out (fun q => q = g) w wr) (fun _ i _ => N - (intOf i).toNat)
  case atStart => exact ⟨0, now, none, 0, [], Nat.zero_le _, rfl, rfl, B2, B3, World.ownsRow_nil _ _ _ _, hc2, hOw⟩
  case round =>
    obtain ⟨k, y, A1, c1, ts, hk, rfl, rfl, R2, R3, hown, hcr, hOr⟩ := hrel
    clear B2 B3 hc2 hOw
    have hzr := R3.lt
    have hne : ∀ q, q < b3 + 1 → some q ≠ (Value.slice A1 k c1).ownBlock := fun q hq e => by have := (hown.lt _ e.symm).1; omega
    by_cases hlt : k < N
    · have hltI : (k : Int) < (N : Int) := by omega
      go_wp2_with fail
      refine (spec_l01Below g 3 _ hcr (by omega)).mono ?_
      rintro e w4 ⟨z, rfl, hz0, hz1, -, hd4⟩
      have hs4 := hd4.size
      go_wp2_with fail
      refine (spec_l01Below g 2 _ hd4.1 (by omega)).mono ?_
      rintro e w5 ⟨z2, rfl, hz20, hz21, -, hd5⟩
      have hs5 := hd5.size
      have hb5 : ∀ c, Below w5.heap.size w5 (w5.alloc c) := fun c => by (repeat (first | (with_reducible exact Below.refl _ _) | (with_reducible assumption) | ((with_reducible refine Below.setCell ?_ ?_ _); rotate_left; focus (first | omega | (simp; done) | (simp; omega))) | ((with_reducible refine Below.alloc ?_ ?_ _); rotate_left; focus (first | omega | (simp; done) | (simp; omega))) | (with_reducible refine Below.drew ?_) | (with_reducible refine below_drewN ?_ _) | (refine Below.trans ?_ (Below.mono (by with_reducible assumption) (by (first | omega | (simp; done) | (simp; omega)))))))
      have R35 := (R3.out hd4.2 (by omega)).out hd5.2 (by omega)
      have R25 := (R2.out hd4.2 (by omega)).out hd5.2 (by omega)
      have ho5 := own_drawn (own_drawn hown hd4 (by omega)) hd5 (by omega)
      have hO5 := (hOr.trans hd4.2).trans hd5.2
      have hc35 := R35.cell
      have hf35 := R35.frozen
      have hl35 := R35.lt
      go_wp2_with (first | (at_builtin; go_loud (refine wpList_append_own_at _ rfl _ _ 24 rfl (b3 + 1) 52 i0 _ 2 16 Try.underlying24 hi0 hI0 hI1 hI2 rfl (by decide) _ _ _ rfl ((ho5.alloc _).alloc _) ⟨w5.heap.size + 1, 0, none⟩ 1 1 [.int .i64 (wrap64 (y + z)), .int .i64 (1 + (k : Int) * 3 + z2)] rfl rfl ?c1 ?c2 ?c3 ?c4 ?c5 ?_; (case c1 => exact (World.news_of_block (cs := #[.int .i64 (wrap64 (y + z)), .int .i64 (1 + (k : Int) * 3 + z2)]) (t := 52) (fr := (0, 0)) (heap_at w5 _ _))); (case c2 => simp [Value.oneCell']); (case c3 => (simp only [maxLen]; omega)); (case c4 => omega); (case c5 => (simp; omega)); intro v' wA hown1 hgrow hnil hat; obtain ⟨gg, cap, rfl, hg1, hg2⟩ := hown1.form (by omega); have BOA := Blk.grown ((R35.alloc (.cells #[.int .i64 (wrap64 (y + z)), .int .i64 (1 + (k : Int) * 3 + z2)] 52)).alloc (.cells #[.int .i64 (wrap64 (y + z)), .int .i64 (1 + (k : Int) * 3 + z2)] 52)) hgrow (hne _ (by omega)); have hcA := BOA.cell; have hfA := BOA.frozen)))
      go_roundw
      case rel =>
        have hzg : w5.heap.size + 2 ≤ wA.heap.size := by simpa using hgrow.size
        have hlow : ∀ q, (Value.slice A1 k c1).ownBlock = some q → b3 + 1 ≤ q := fun q e => (hown.lt q e).1
        have RY2 := Blk.grown ((R25.alloc (.cells #[.int .i64 (wrap64 (y + z)), .int .i64 (1 + (k : Int) * 3 + z2)] 52)).alloc (.cells #[.int .i64 (wrap64 (y + z)), .int .i64 (1 + (k : Int) * 3 + z2)] 52)) hgrow (hne _ (by omega))
        have hOY : Out (fun q => q = g) w wA := Out.growR ((hO5.alloc _).alloc _) hgrow (fun q e => by have := hlow q e; omega)
        have hcY' : Cur B wA g := (hd5.1.below (((Below.refl _ w5).alloc (Nat.le_refl _) _).alloc (by simp) _)).out (out_gr hgrow) (fun q e => by have := hlow q e; omega)
        refine ⟨k + 1, _, some ⟨gg, 0, none⟩, cap, ts ++ [⟨wrap64 (y + z), 1 + (k : Int) * 3 + z2⟩], by omega, rfl, by go_num, ?_, ?_, ?_, ?_, ?_⟩
        · exact RY2.far (by simp; omega) _
        · have hB := BOA.set_ 1 (.slice (some ⟨gg, 0, none⟩) (k + 1) cap)
          simpa using hB
        · refine own_setCell ?_ (by simp) _
          rw [List.flatMap_append]; exact hown1
        · exact hcY'.out (out_set _ _ _ _) (fun q hq => by omega)
        · exact hOY.newer (by simp; omega) _
      case measure => simp [intOf]; omega
    · obtain rfl : k = N := by omega
      go_wp2_with fail
      refine (spec_l01Once g 20 _ hcr (by omega)).mono ?_
      rintro e w7 ⟨b7, rfl, hd7⟩
      have hs7 := hd7.size
      replace R2 := R2.out hd7.2 (by omega)
      replace R3 := R3.out hd7.2 (by omega)
      have ho7 := own_drawn hown hd7 (by omega)
      replace hOr := hOr.trans hd7.2
      have hc3 := R3.cell; have hf3 := R3.frozen; have hc2 := R2.cell; have hf2 := R2.frozen
      cases b7
      · go_wp2_with fail
        refine bodyPost_ret (v := .agg #[.int .i64 now, .slice A1 k c1]) (by simp [results, Try.results31, go_sem, hc2, hf2]) rfl ⟨_, _, _, _, rfl, (hd7.1.out (out_set _ _ _ _) (fun q hq => by omega)).out (out_set _ _ _ _) (fun q hq => by omega), (hOr.newer (by simp) _).newer (by simp) _⟩
      · go_wp2_with fail
        refine (spec_l01Below g 4 _ hd7.1 (by omega)).mono ?_
        rintro e w8 ⟨p, rfl, hp0, hp1, -, hd8⟩
        have hp := hp1 (by omega)
        have hs8 := hd8.size
        replace R2 := R2.out hd8.2 (by omega)
        replace R3 := R3.out hd8.2 (by omega)
        have ho8 := own_drawn ho7 hd8 (by omega)
        replace hOr := hOr.trans hd8.2
        clear hc3 hf3 hc2 hf2
        have hc3 := R3.cell; have hf3 := R3.frozen; have hc2 := R2.cell; have hf2 := R2.frozen
        by_cases e0 : p = 0
        · subst e0
          go_wp2_with fail
          refine (spec_pickLit g w8 [-1, 1000000000, 1000000001] hd8.1 (by simp) (by simp)).mono ?_
          rintro e wB ⟨nf, rfl, -, hcB, hOB, hsB⟩
          replace R2 := R2.out hOB (by omega)
          replace R3 := R3.out hOB (by omega)
          replace hOr := hOr.trans hOB
          clear hc3 hf3 hc2 hf2
          have hc3 := R3.cell; have hf3 := R3.frozen
          have hc2 := (R2.far (p := ⟨b3, 0, none⟩) (by simp; omega) (.int .i64 nf)).cell
          have hf2 := (R2.far (p := ⟨b3, 0, none⟩) (by simp; omega) (.int .i64 nf)).frozen
          go_wp2_with fail
          refine bodyPost_ret (v := .agg #[.int .i64 nf, .slice A1 k c1]) (by simp [results, Try.results31, go_sem, hc2, hf2]) rfl ⟨_, _, _, _, rfl, ((hcB.out (out_set _ _ _ _) (fun q hq => by omega)).out (out_set _ _ _ _) (fun q hq => by omega)).out (out_set _ _ _ _) (fun q hq => by omega), ((hOr.newer (by simp; omega) _).newer (by simp) _).newer (by simp) _⟩
        by_cases e1 : p = 1
        · subst e1
          by_cases hN1 : (1 : Int) < (k : Int)
          · obtain ⟨M, rfl⟩ : ∃ M, k = M + 2 := ⟨k - 2, by omega⟩
            have hm1 : IntKind.i64.wrap ((M : Int) + 2 - 1) = (M : Int) + 1 := by rw [IntWalk.i64_in _ (by omega)]; omega
            have hm2 : ((M : Int) + 1).toNat = M + 1 := by omega
            have hm3 : (0 : Int) ≤ (M : Int) + 1 := by omega
            have hm4 : (0 : Int) < (M : Int) + 2 := by omega
            obtain ⟨gq, cq, hv, hq1, hq2⟩ := ho8.form (by omega)
            simp only [Value.slice.injEq, true_and] at hv
            obtain ⟨rfl, rfl⟩ := hv
            obtain ⟨a, ha⟩ := row_int ho8 (i := (M + 1) * 2 + 1) (by omega)
            obtain ⟨b, hb⟩ := row_int ho8 (i := 1) (by omega)
            have hfq := ho8.frozenAt 1
            have hq3 : b3 + 1 ≤ gq := hq1
            have R2q := (R2.far (p := ⟨gq, 1, none⟩) (by simp; omega) (.int .i64 a))
            have R3q := (R3.far (p := ⟨gq, 1, none⟩) (by simp; omega) (.int .i64 a))
            have hc3q := R3q.cell; have hf3q := R3q.frozen; have hc2q := R2q.cell; have hf2q := R2q.frozen
            go_wp2_with fail
            go_region_law (fail)
            all_goals go_wp2_with fail
            all_goals refine bodyPost_ret (v := .agg #[.int .i64 now, .slice (some ⟨gq, 0, none⟩) (M + 2) c1]) (by simp [results, Try.results31, go_sem, hc2q, hf2q]) rfl ⟨_, _, _, _, rfl, (((hd8.1.out (out_set w8 gq 1 (.int .i64 a)) (fun q hq => by omega)).out (out_set _ _ _ _) (fun q hq => by omega)).out (out_set _ _ _ _) (fun q hq => by omega)).drew, (((hOr.newer (p := ⟨gq, 1, none⟩) (by simp; omega) (.int .i64 a)).newer (by simp) _).newer (by simp) _).drew⟩
          · go_wp2_with fail
            refine bodyPost_ret (v := .agg #[.int .i64 now, .slice A1 k c1]) (by simp [results, Try.results31, go_sem, hc2, hf2]) rfl ⟨_, _, _, _, rfl, (hd8.1.out (out_set _ _ _ _) (fun q hq => by omega)).out (out_set _ _ _ _) (fun q hq => by omega), (hOr.newer (by simp) _).newer (by simp) _⟩
        by_cases e2 : p = 2
        · subst e2
          by_cases hN1 : (0 : Int) < (k : Int)
          · obtain ⟨gq, cq, hv, hq1, hq2⟩ := ho8.form (by omega)
            simp only [Value.slice.injEq, true_and] at hv
            obtain ⟨rfl, rfl⟩ := hv
            obtain ⟨a, ha⟩ := row_int ho8 (i := 0) (by omega)
            have hfq := ho8.frozenAt 0
            have hq3 : b3 + 1 ≤ gq := hq1
            obtain ⟨a2, ha2⟩ : ∃ a2, IntKind.i64.wrap (a + 100) = a2 := ⟨_, rfl⟩
            have R2q := (R2.far (p := ⟨gq, 0, none⟩) (by simp; omega) (.int .i64 a2))
            have R3q := (R3.far (p := ⟨gq, 0, none⟩) (by simp; omega) (.int .i64 a2))
            have hc3q := R3q.cell; have hf3q := R3q.frozen; have hc2q := R2q.cell; have hf2q := R2q.frozen
            go_wp2_with fail
            go_region_law (fail)
            all_goals go_wp2_with fail
            all_goals refine bodyPost_ret (v := .agg #[.int .i64 now, .slice (some ⟨gq, 0, none⟩) k c1]) (by simp [results, Try.results31, go_sem, hc2q, hf2q]) rfl ⟨_, _, _, _, rfl, (((hd8.1.out (out_set w8 gq 0 (.int .i64 a2)) (fun q hq => by omega)).out (out_set _ _ _ _) (fun q hq => by omega)).out (out_set _ _ _ _) (fun q hq => by omega)).drew, (((hOr.newer (p := ⟨gq, 0, none⟩) (by simp; omega) (.int .i64 a2)).newer (by simp) _).newer (by simp) _).drew⟩
          · go_wp2_with fail
            refine bodyPost_ret (v := .agg #[.int .i64 now, .slice A1 k c1]) (by simp [results, Try.results31, go_sem, hc2, hf2]) rfl ⟨_, _, _, _, rfl, (hd8.1.out (out_set _ _ _ _) (fun q hq => by omega)).out (out_set _ _ _ _) (fun q hq => by omega), (hOr.newer (by simp) _).newer (by simp) _⟩
        · obtain rfl : p = 3 := by omega
          have hcL := (R3.alloc (.cells #[.int .i64 0, .int .i64 1000000000, .int .i64 1000000001] 3)).cell
          have hcLd := (R3.alloc (.cells #[.int .i64 0, .int .i64 1000000000, .int .i64 1000000001] 3)).drew.cell
          go_wp2_with fail
          go_region_law (first | (go_loud (refine step_append_lies _ (by rfl) _ _ _ (by rfl) (b3 + 1) 52 i0 _ 2 16 Try.underlying24 hi0 hI0 hI1 hI2 rfl (by omega) (.slice A1 k c1) k _ (by rfl) (hoB.alloc _) ⟨wB.heap.size, 0, none⟩ 1 1 [.int .i64 y, .int .i64 nf] (by rfl) (by rfl) (World.news_of_block (cs := #[.int .i64 y, .int .i64 nf]) (t := 52) (fr := (0, 0)) (heap_alloc_new wB _)) (by simp [Value.oneCell']) (by omega) (by simp only [maxLen]; omega) (by omega) (by simp; omega) (wB.heap.size + 1) (by simp) ?_; intro gg cap w9 hown1 hgrow hat hlt1; have BY := Blk.grown (R3B.alloc (.cells #[.int .i64 y, .int .i64 nf] 52)) hgrow (hne _ (by omega)); have hcY := BY.cell; have hfY := BY.frozen; have BY2 := Blk.grown (R2B.alloc (.cells #[.int .i64 y, .int .i64 nf] 52)) hgrow (hne _ (by omega)))) | (go_simp; go_at_call 18; refine (spec_l01PickInt g _ _ [0, 1000000000, 1000000001] (fun _ => True) _ (hd8.1.below (by (repeat (first | (with_reducible exact Below.refl _ _) | (with_reducible assumption) | ((with_reducible refine Below.setCell ?_ ?_ _); rotate_left; focus (first | omega | (simp; done) | (simp; omega))) | ((with_reducible refine Below.alloc ?_ ?_ _); rotate_left; focus (first | omega | (simp; done) | (simp; omega))) | (with_reducible refine Below.drew ?_) | (with_reducible refine below_drewN ?_ _) | (refine Below.trans ?_ (Below.mono (by with_reducible assumption) (by (first | omega | (simp; done) | (simp; omega))))))))) (Reads.of_blk (t := 3) (cs := #[.int .i64 0, .int .i64 1000000000, .int .i64 1000000001]) (by (repeat (first | (with_reducible assumption) | ((with_reducible refine Blk.new' ?_); focus (simp; done)) | (with_reducible refine Blk.alloc ?_ _) | (with_reducible refine Blk.drew ?_) | (with_reducible refine Blk.drewN ?_ _) | ((with_reducible refine Blk.far ?_ ?_ _); rotate_left; focus (first | omega | (simp; done) | (simp; omega))) | (refine Blk.keep ?_ (by with_reducible assumption)) | (refine Blk.below ?_ (by with_reducible assumption) (by (first | omega | (simp; done) | (simp; omega)))))))) (fun b off hb => by simp only [Option.some.injEq, Addr.mk.injEq] at hb; omega) (by simp) (by simp) (fun _ _ => trivial)).mono ?_; rintro e wB ⟨nf, rfl, -, hdB⟩; have hsB : w8.heap.size + 1 ≤ wB.heap.size := (by simpa using hdB.size); have hoB : wB.ownsRow (b3 + 1) 52 2 (.slice A1 k c1) k (ts.flatMap Timer.cells) := (own_drawn (by (repeat (first | (with_reducible exact ho8) | ((with_reducible refine own_setCell ?_ ?_ _); rotate_left; focus (first | omega | (simp; done) | (simp; omega))) | (with_reducible refine World.ownsRow.alloc ?_ _) | (with_reducible refine own_drew ?_) | (with_reducible refine own_drewN ?_ _) | (refine own_below ?_ (by with_reducible assumption))))) hdB (by omega)); have R2B : Blk wB w.heap.size 26 #[.int .i64 0, .slice none 0 0] := (Blk.out (by (repeat (first | (with_reducible assumption) | ((with_reducible refine Blk.new' ?_); focus (simp; done)) | (with_reducible refine Blk.alloc ?_ _) | (with_reducible refine Blk.drew ?_) | (with_reducible refine Blk.drewN ?_ _) | ((with_reducible refine Blk.far ?_ ?_ _); rotate_left; focus (first | omega | (simp; done) | (simp; omega))) | (refine Blk.keep ?_ (by with_reducible assumption)) | (refine Blk.below ?_ (by with_reducible assumption) (by (first | omega | (simp; done) | (simp; omega))))))) hdB.2 (by omega)); have R3B : Blk wB b3 26 #[.int .i64 now, .slice A1 k c1] := (Blk.out (by (repeat (first | (with_reducible assumption) | ((with_reducible refine Blk.new' ?_); focus (simp; done)) | (with_reducible refine Blk.alloc ?_ _) | (with_reducible refine Blk.drew ?_) | (with_reducible refine Blk.drewN ?_ _) | ((with_reducible refine Blk.far ?_ ?_ _); rotate_left; focus (first | omega | (simp; done) | (simp; omega))) | (refine Blk.keep ?_ (by with_reducible assumption)) | (refine Blk.below ?_ (by with_reducible assumption) (by (first | omega | (simp; done) | (simp; omega))))))) hdB.2 (by omega)); have hcB3 := R3B.cell; have hfB3 := R3B.frozen; have hcB4 := (R3B.alloc (.cells #[.int .i64 y, .int .i64 nf] 52)).cell; have hOB : Out (fun q => q = g) w wB := (Out.trans (Out.trans hOr (Out.of_below (by (repeat (first | (with_reducible exact Below.refl _ _) | (with_reducible assumption) | ((with_reducible refine Below.setCell ?_ ?_ _); rotate_left; focus (first | omega | (simp; done) | (simp; omega))) | ((with_reducible refine Below.alloc ?_ ?_ _); rotate_left; focus (first | omega | (simp; done) | (simp; omega))) | (with_reducible refine Below.drew ?_) | (with_reducible refine below_drewN ?_ _) | (refine Below.trans ?_ (Below.mono (by with_reducible assumption) (by (first | omega | (simp; done) | (simp; omega)))))))))) hdB.2)))
          all_goals
            have hzg : wB.heap.size + 1 ≤ w9.heap.size := by simpa using hgrow.size
            have hlow : ∀ q, (Value.slice A1 k c1).ownBlock = some q → b3 + 1 ≤ q := fun q e => (hown.lt q e).1
            have hc2q := (BY2.far (p := ⟨b3, 1, none⟩) (by simp; omega) (.slice (some ⟨gg, 0, none⟩) (k + 1) cap)).cell
            have hf2q := (BY2.far (p := ⟨b3, 1, none⟩) (by simp; omega) (.slice (some ⟨gg, 0, none⟩) (k + 1) cap)).frozen
            have hOY : Out (fun q => q = g) w w9 := Out.growR (hOB.alloc (.cells #[.int .i64 y, .int .i64 nf] 52)) hgrow (fun q e => by have := hlow q e; omega)
            have hcY' : Cur B w9 g := (hdB.1.below ((Below.refl _ wB).alloc (Nat.le_refl _) (.cells #[.int .i64 y, .int .i64 nf] 52))).out (out_gr hgrow) (fun q e => by have := hlow q e; omega)
            go_wp2_with fail
            refine bodyPost_ret (v := .agg #[.int .i64 now, .slice (some ⟨gg, 0, none⟩) (k + 1) cap]) (by simp [results, Try.results31, go_sem, hc2q, hf2q]) rfl ⟨_, _, _, _, rfl, ((hcY'.out (out_set _ _ _ _) (fun q hq => by omega)).out (out_set _ _ _ _) (fun q hq => by omega)).out (out_set _ _ _ _) (fun q hq => by omega), ((hOY.newer (by simp; omega) _).newer (by simp) _).newer (by simp) _⟩
set_option maxHeartbeats 1600000 in
theorem spec_l07DrawOne (A0 : Option Addr) (c0 : Nat) (code : List UInt8) (w : World) (hr : Reads w w.heap.size A0 (code.map byteV)) (hm : code.length ≤ 1048576) :
    Calls Try.prog 14 #[.slice A0 code.length c0] w fun e w' => ∃ (g : Nat) (now : Int) (A : Option Addr) (n c : Nat), e = .returned (.tuple #[.pointer (some ⟨g, 0, none⟩), .agg #[.int .i64 now, .slice A n c]]) ∧ Cur w.heap.size w' g ∧ w.heap.size ≤ g ∧ Below w.heap.size w w' := by
  have HN := Lib.hid (fun (w' : World) (hb : Below w.heap.size w w') => spec_l01New (B := w.heap.size) A0 c0 code w' (hr.below hb (Nat.le_refl _)) hb.size hm)
  generalize code.length = n at *
  clear hr
  go_enter Try.func14, Try.ntmps14
  go_wp2_with fail
  have hb0 : Below w.heap.size w (w.alloc (.cells #[.int .i64 0, .slice none 0 0] 26)) := by (repeat (first | (with_reducible exact Below.refl _ _) | (with_reducible assumption) | ((with_reducible refine Below.setCell ?_ ?_ _); rotate_left; focus (first | omega | (simp; done) | (simp; omega))) | ((with_reducible refine Below.alloc ?_ ?_ _); rotate_left; focus (first | omega | (simp; done) | (simp; omega))) | (with_reducible refine Below.drew ?_) | (with_reducible refine below_drewN ?_ _) | (refine Below.trans ?_ (Below.mono (by with_reducible assumption) (by (first | omega | (simp; done) | (simp; omega)))))))
  have B0 : Blk (w.alloc (.cells #[.int .i64 0, .slice none 0 0] 26)) w.heap.size 26 #[.int .i64 0, .slice none 0 0] := Blk.new' rfl
  have hs0 : w.heap.size + 1 = (w.alloc (.cells #[.int .i64 0, .slice none 0 0] 26)).heap.size := by simp
  generalize (w.alloc (.cells #[.int .i64 0, .slice none 0 0] 26)) = wa at *
  refine (HN.out _ hb0).mono ?_
  rintro e w1 ⟨rfl, hc1, hb1⟩
  obtain ⟨g, hg⟩ : ∃ g, g = wa.heap.size := ⟨_, rfl⟩
  rw [← hg] at hc1 ⊢
  have hgl := hc1.lt
  have hBg := hc1.le
  have hgw : w.heap.size < g := by omega
  replace B0 := B0.keep hb1
  replace hb1 := hb0.trans (hb1.mono (by omega))
  clear hg hs0
  go_wp2_with fail
  refine (spec_l01Size A0 n c0 14 _ hm (by omega) (by omega)).mono ?_
  rintro e w' ⟨m, rfl, hm0, hm1, rfl⟩
  go_wp2_with fail
  refine (spec_l01Below g m _ hc1 (by omega)).mono ?_
  rintro e w2 ⟨x, rfl, hx0, hx1, -, hd2⟩
  have hx := hx1 (by omega)
  have hs2 := hd2.size
  replace B0 := B0.out hd2.2 (by omega)
  go_wp2_with fail
  refine (spec_l01Once g 40 _ hd2.1 (by omega)).mono ?_
  rintro e w3 ⟨b, rfl, hd3⟩
  have hs3 := hd3.size
  replace B0 := B0.out hd3.2 (by omega)
  have hO3 := hd2.2.trans hd3.2
  cases b
  · obtain ⟨N, rfl⟩ : ∃ N : Nat, x = N := ⟨x.toNat, by omega⟩
    go_wp2_with fail
    refine (spec_l07DrawClock g N _ hd3.1 (by omega)).mono ?_
    rintro e w5 ⟨now, Av, nv, cv, rfl, hc5, hO5⟩
    have hs5 := hO5.size
    replace B0 := B0.out hO5 (by omega)
    have hc0 := B0.cell; have hf0 := B0.frozen
    have hb5 := hb1.trans ((hO3.trans hO5).below (B := w.heap.size) (by omega) (fun q hq => by omega))
    go_wp2_with fail
    refine bodyPost_ret (v := .tuple #[.pointer (some ⟨g, 0, none⟩), .agg #[.int .i64 now, .slice Av nv cv]]) (by simp [results, Try.results14, go_sem, hc0, hf0]) rfl ⟨g, now, Av, nv, cv, rfl, (hc5.out (out_set _ _ _ _) (fun q hq => by omega)).out (out_set _ _ _ _) (fun q hq => by omega), by omega, by (repeat (first | (with_reducible exact Below.refl _ _) | (with_reducible assumption) | ((with_reducible refine Below.setCell ?_ ?_ _); rotate_left; focus (first | omega | (simp; done) | (simp; omega))) | ((with_reducible refine Below.alloc ?_ ?_ _); rotate_left; focus (first | omega | (simp; done) | (simp; omega))) | (with_reducible refine Below.drew ?_) | (with_reducible refine below_drewN ?_ _) | (refine Below.trans ?_ (Below.mono (by with_reducible assumption) (by (first | omega | (simp; done) | (simp; omega)))))))⟩
  · go_wp2_with fail
    refine (spec_l01Below g 3 _ hd3.1 (by omega)).mono ?_
    rintro e w4 ⟨y, rfl, hy0, hy1, -, hd4⟩
    have hy := hy1 (by omega)
    have hs4 := hd4.size
    replace B0 := B0.out hd4.2 (by omega)
    replace hO3 := hO3.trans hd4.2
    obtain ⟨N, hN⟩ : ∃ N : Nat, 299 + y = N := ⟨(299 + y).toNat, by omega⟩
    replace hd3 := hd4
    replace hs3 := Nat.le_trans hs3 hs4
    go_wp2_with fail
    try rw [hN]
    refine (spec_l07DrawClock g N _ hd3.1 (by omega)).mono ?_
    rintro e w5 ⟨now, Av, nv, cv, rfl, hc5, hO5⟩
    have hs5 := hO5.size
    replace B0 := B0.out hO5 (by omega)
    have hc0 := B0.cell; have hf0 := B0.frozen
    have hb5 := hb1.trans ((hO3.trans hO5).below (B := w.heap.size) (by omega) (fun q hq => by omega))
    go_wp2_with fail
    refine bodyPost_ret (v := .tuple #[.pointer (some ⟨g, 0, none⟩), .agg #[.int .i64 now, .slice Av nv cv]]) (by simp [results, Try.results14, go_sem, hc0, hf0]) rfl ⟨g, now, Av, nv, cv, rfl, (hc5.out (out_set _ _ _ _) (fun q hq => by omega)).out (out_set _ _ _ _) (fun q hq => by omega), by omega, by (repeat (first | (with_reducible exact Below.refl _ _) | (with_reducible assumption) | ((with_reducible refine Below.setCell ?_ ?_ _); rotate_left; focus (first | omega | (simp; done) | (simp; omega))) | ((with_reducible refine Below.alloc ?_ ?_ _); rotate_left; focus (first | omega | (simp; done) | (simp; omega))) | (with_reducible refine Below.drew ?_) | (with_reducible refine below_drewN ?_ _) | (refine Below.trans ?_ (Below.mono (by with_reducible assumption) (by (first | omega | (simp; done) | (simp; omega)))))))⟩
theorem rd_row {α : Type} {f : α → List Value} {m : Nat} {hf : ∀ x, (f x).length = m} {wf : α → Prop} {c : Nat} {mk : Nat → α → α} {sz : α → Nat} {w : World} {base n cap : Nat} {e : TypeId} {A : Option Addr} {xs : List α} (h0 : 0 < m) (hwf : ∀ x, wf x) (hn : xs.length = n) (h : w.ownsRow base e m (.slice A n cap) n (xs.flatMap f)) : SlRd (Rep.flat m f hf wf c mk sz) w w.heap.size (.slice A n cap) xs := by
  subst hn
  have hc2 : cap ≤ 9223372036854775807 := by
    rcases h.2 with ⟨hv, hn⟩ | ⟨g, cap, cur, hv, _, _, _, hcm, _⟩
    · simp only [Value.slice.injEq] at hv; omega
    · simp only [Value.slice.injEq] at hv; simp only [maxLen] at hcm; omega
  exact SlRd.of_reads h0 (Reads.of_own h) (own_cap h) hc2 (fun x _ => hwf x)
end Go.Proofs.Ythahnaigdoiddaa

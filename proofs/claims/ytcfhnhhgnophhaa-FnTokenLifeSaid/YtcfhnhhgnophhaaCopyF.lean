/- cloneForest of the program, l08Copy of the reference (printed by wip/gen/gencopy.py). -/
import Derived.Test.YtcfhnhhgnophhaaCopyTok
import Derived.Test.YtcfhnhhgnophhaaGrow
import Derived.Test.YtcfhnhhgnophhaaFind
set_option linter.unusedSimpArgs false
set_option linter.unusedVariables false
set_option maxRecDepth 20000
namespace Go.Proofs.Ytcfhnhhgnophhaa
open Go.RowKit
set_option maxRecDepth 20000 in
set_option maxHeartbeats 3200000 in
theorem impl_cloneForest (A : Option Addr) (c : Nat) (ts : List Token) (w : World) (hr : SlRd TokenR w w.heap.size (.slice A ts.length c) ts) (hm : szList TokenR ts ≤ 1048576) :
    Calls Try.prog 32 #[.agg #[.slice A ts.length c]] w fun e w' => ∃ A1 c1 css, e = .returned (.agg #[.slice A1 ts.length c1]) ∧ Grow TokenR 35 w' w.heap.size A1 ts.length c1 css ts ∧ Below w.heap.size w w' := by
  obtain ⟨i0, hi0, hz0, hz1, hz2⟩ := info_parts info_Token
  have hml : ts.length ≤ 1048576 := Nat.le_trans (Nat.le_add_right _ _) hm
  have HNm := Lib.hid (fun k t (h : ts[k]? = some t) => names_small hm h)
  generalize hn : ts.length = n at *
  have Hn := Lib.hid hn
  clear hn hm
  go_enter Try.func32, Try.ntmps32
  go_wp2
  go_loopw [9] (fun i wr => ∃ (k : Nat) (A1 : Option Addr) (c1 : Nat) (css : List (List Value)), k ≤ n ∧ i = .int .i64 k ∧ Below w.heap.size w wr ∧ w.heap.size + 3 ≤ wr.heap.size ∧ Blk wr w.heap.size 26 #[.slice A n c] ∧ Blk wr (w.heap.size + 1) 26 #[.slice none 0 0] ∧ Blk wr (w.heap.size + 1 + 1) 26 #[.slice A1 k c1] ∧ Hid (Grow TokenR 35 wr (w.heap.size + 3) A1 k c1 css (ts.take k))) (fun i _ => n - (intOf i).toNat)
  case atStart => exact ⟨0, none, 0, [], Nat.zero_le _, rfl, by (repeat (first | (with_reducible exact Below.refl _ _) | (with_reducible assumption) | ((with_reducible refine Below.setCell ?_ ?_ _); rotate_left; focus (first | omega | (simp; done) | (simp; omega))) | ((with_reducible refine Below.alloc ?_ ?_ _); rotate_left; focus (first | omega | (simp; done) | (simp; omega))) | (with_reducible refine Below.drew ?_) | (with_reducible refine below_drewN ?_ _) | (refine Below.trans ?_ (Below.mono (by with_reducible assumption) (by (first | omega | (simp; done) | (simp; omega))))))), by simp, by (repeat (first | (with_reducible assumption) | ((with_reducible refine Blk.new' ?_); focus (simp; done)) | (with_reducible refine Blk.alloc ?_ _) | (with_reducible refine Blk.drew ?_) | (with_reducible refine Blk.drewN ?_ _) | ((with_reducible refine Blk.far ?_ ?_ _); rotate_left; focus (first | omega | (simp; done) | (simp; omega))) | (refine Blk.keep ?_ (by with_reducible assumption)) | (refine Blk.below ?_ (by with_reducible assumption) (by (first | omega | (simp; done) | (simp; omega)))))), by (repeat (first | (with_reducible assumption) | ((with_reducible refine Blk.new' ?_); focus (simp; done)) | (with_reducible refine Blk.alloc ?_ _) | (with_reducible refine Blk.drew ?_) | (with_reducible refine Blk.drewN ?_ _) | ((with_reducible refine Blk.far ?_ ?_ _); rotate_left; focus (first | omega | (simp; done) | (simp; omega))) | (refine Blk.keep ?_ (by with_reducible assumption)) | (refine Blk.below ?_ (by with_reducible assumption) (by (first | omega | (simp; done) | (simp; omega)))))), by (repeat (first | (with_reducible assumption) | ((with_reducible refine Blk.new' ?_); focus (simp; done)) | (with_reducible refine Blk.alloc ?_ _) | (with_reducible refine Blk.drew ?_) | (with_reducible refine Blk.drewN ?_ _) | ((with_reducible refine Blk.far ?_ ?_ _); rotate_left; focus (first | omega | (simp; done) | (simp; omega))) | (refine Blk.keep ?_ (by with_reducible assumption)) | (refine Blk.below ?_ (by with_reducible assumption) (by (first | omega | (simp; done) | (simp; omega)))))), Lib.hid (Grow.nil _ _ _ _)⟩
  case round =>
    obtain ⟨k, A1, c1, css, hk, rfl, hb, hzr, BK0, BK1, BK2, HG0⟩ := hrel
    have hc0 := BK0.cell; have hc2 := BK2.cell; have hf2 := BK2.frozen
    by_cases hlt : k < n
    · have hlx : k < ts.length := by rw [Hn.out]; exact hlt
      have HT := Lib.hid (List.getElem?_eq_getElem hlx)
      generalize ts[k]'hlx = t at HT
      clear hlx
      obtain ⟨b, off, An, cn, rfl, hab, hnm, hq0, hq1, hq2, hq3, hq4, hq5, hq6⟩ := tok_elem (hr.below hb (Nat.le_refl _)) HT.out
      obtain ⟨-, hnr, -, -, hns⟩ := rd_StringS hnm
      have HNs := Lib.hid hns
      have hnl := HNm.out k t HT.out
      clear hnm hns
      have hrow : wr.ownsRow (w.heap.size + 3) 35 7 (.slice A1 k c1) k css.flatten := HG0.out.row
      generalize hcf : css.flatten = cf at hrow
      have HCf := Lib.hid hcf
      clear hcf
      have hne : ∀ g, g < w.heap.size + 3 → some g ≠ (Value.slice A1 k c1).ownBlock := fun g hg e => by have := (hrow.lt _ e.symm).1; omega
      go_wp2
      have hbW : Below wr.heap.size wr (wr.alloc (.cells #[.int .i64 t.Id, .int .i64 t.Parent, .slice An t.Names.length cn, .int .i64 t.Made, .int .i64 t.Ends, .int .i64 t.Limit, .int .i64 t.Uses] 35)).drew := by (repeat (first | (with_reducible exact Below.refl _ _) | (with_reducible assumption) | ((with_reducible refine Below.setCell ?_ ?_ _); rotate_left; focus (first | omega | (simp; done) | (simp; omega))) | ((with_reducible refine Below.alloc ?_ ?_ _); rotate_left; focus (first | omega | (simp; done) | (simp; omega))) | (with_reducible refine Below.drew ?_) | (with_reducible refine below_drewN ?_ _) | (refine Below.trans ?_ (Below.mono (by with_reducible assumption) (by (first | omega | (simp; done) | (simp; omega)))))))
      have BX2 : Blk (wr.alloc (.cells #[.int .i64 t.Id, .int .i64 t.Parent, .slice An t.Names.length cn, .int .i64 t.Made, .int .i64 t.Ends, .int .i64 t.Limit, .int .i64 t.Uses] 35)).drew (w.heap.size + 1 + 1) 26 #[.slice A1 k c1] := by (repeat (first | (with_reducible assumption) | ((with_reducible refine Blk.new' ?_); focus (simp; done)) | (with_reducible refine Blk.alloc ?_ _) | (with_reducible refine Blk.drew ?_) | (with_reducible refine Blk.drewN ?_ _) | ((with_reducible refine Blk.far ?_ ?_ _); rotate_left; focus (first | omega | (simp; done) | (simp; omega))) | (refine Blk.keep ?_ (by with_reducible assumption)) | (refine Blk.below ?_ (by with_reducible assumption) (by (first | omega | (simp; done) | (simp; omega))))))
      have hcx := BX2.cell; have hfx := BX2.frozen
      have hrW : Reads (wr.alloc (.cells #[.int .i64 t.Id, .int .i64 t.Parent, .slice An t.Names.length cn, .int .i64 t.Made, .int .i64 t.Ends, .int .i64 t.Limit, .int .i64 t.Uses] 35)).drew ((wr.alloc (.cells #[.int .i64 t.Id, .int .i64 t.Parent, .slice An t.Names.length cn, .int .i64 t.Made, .int .i64 t.Ends, .int .i64 t.Limit, .int .i64 t.Uses] 35)).drew).heap.size An (t.Names.map strV) := (hnr.below (B' := wr.heap.size) hbW (by omega)).more (by simp; omega)
      have hro : World.ownsRow (wr.alloc (.cells #[.int .i64 t.Id, .int .i64 t.Parent, .slice An t.Names.length cn, .int .i64 t.Made, .int .i64 t.Ends, .int .i64 t.Limit, .int .i64 t.Uses] 35)).drew (w.heap.size + 3) 35 7 (.slice A1 k c1) k cf := own_below hrow hbW
      have hzW : wr.heap.size ≤ ((wr.alloc (.cells #[.int .i64 t.Id, .int .i64 t.Parent, .slice An t.Names.length cn, .int .i64 t.Made, .int .i64 t.Ends, .int .i64 t.Limit, .int .i64 t.Uses] 35)).drew).heap.size := hbW.size
      have hct := (Blk.new wr 35 #[.int .i64 t.Id, .int .i64 t.Parent, .slice An t.Names.length cn, .int .i64 t.Made, .int .i64 t.Ends, .int .i64 t.Limit, .int .i64 t.Uses]).drew.cell
      go_region_law (first | (go_loud (refine step_append_lies _ (by rfl) _ _ _ (by rfl) (w.heap.size + 3) 35 i0 _ 7 72 Try.underlying24 hi0 hz0 hz1 hz2 rfl (by omega) (.slice A1 k c1) k cf (by rfl) ((own_below hro hb2).alloc _) ⟨w2.heap.size, 0, none⟩ 1 1 [.int .i64 t.Id, .int .i64 t.Parent, .slice D t.Names.length d, .int .i64 t.Made, .int .i64 t.Ends, .int .i64 t.Limit, .int .i64 t.Uses] (by rfl) (by rfl) (World.news_of_block (cs := #[.int .i64 t.Id, .int .i64 t.Parent, .slice D t.Names.length d, .int .i64 t.Made, .int .i64 t.Ends, .int .i64 t.Limit, .int .i64 t.Uses]) (t := 35) (fr := (0, 0)) (heap_alloc_new w2 _)) (by simp [Value.oneCell']) (by omega) (by simp only [maxLen]; omega) (by omega) (by simp; omega) (w2.heap.size + 1) (by simp) ?_; intro gg cap w3 hown1 hgrow hat hlt1; have BY := Blk.grown (BX3.alloc (.cells #[.int .i64 t.Id, .int .i64 t.Parent, .slice D t.Names.length d, .int .i64 t.Made, .int .i64 t.Ends, .int .i64 t.Limit, .int .i64 t.Uses] 35)) hgrow (hne _ (by omega)); have hcY := BY.cell; have hfY := BY.frozen)) | (go_simp; go_at_call 50; refine (impl_cloneToken t An cn _ hrW (by omega)).mono ?_; rintro e w2 ⟨D, d, rfl, ho, hb2⟩; have hsz2 := hb2.size; have BX3 := BX2.keep hb2; have hc3 := BX3.cell; have hf3 := BX3.frozen; have BX4 := BX3.alloc (.cells #[.int .i64 t.Id, .int .i64 t.Parent, .slice D t.Names.length d, .int .i64 t.Made, .int .i64 t.Ends, .int .i64 t.Limit, .int .i64 t.Uses] 35); have hc4 := BX4.cell; have hf4 := BX4.frozen))
      all_goals
        go_wp2
        go_roundw
        case rel =>
          have hbA : Below wr.heap.size wr (w2.alloc (.cells #[.int .i64 t.Id, .int .i64 t.Parent, .slice D t.Names.length d, .int .i64 t.Made, .int .i64 t.Ends, .int .i64 t.Limit, .int .i64 t.Uses] 35)) := Below.alloc (hbW.trans (hb2.mono hzW)) (by omega) _
          have hoA := TokenR.own_keep (own_Token_row ho HNs.out) ((Below.refl _ w2).alloc (Nat.le_refl _) (.cells #[.int .i64 t.Id, .int .i64 t.Parent, .slice D t.Names.length d, .int .i64 t.Made, .int .i64 t.Ends, .int .i64 t.Limit, .int .i64 t.Uses] 35))
          have hG := Grow.snoc HG0.out hbA hoA hzW (by simp) (by omega) (by rw [HCf.out]; exact hown1) hgrow (hat.imp_right (fun h => by simpa using h))
          have hz3 := hgrow.size
          have hrowlt : ∀ q, (Value.slice A1 k c1).ownBlock = some q → w.heap.size + 3 ≤ q := fun q e => (hrow.lt q e).1
          have hbw : Below w.heap.size w (w2.alloc (.cells #[.int .i64 t.Id, .int .i64 t.Parent, .slice D t.Names.length d, .int .i64 t.Made, .int .i64 t.Ends, .int .i64 t.Limit, .int .i64 t.Uses] 35)) := hb.trans (hbA.mono (by omega))
          refine ⟨k + 1, some ⟨gg, 0, none⟩, cap, _, by omega, by go_num, ?_, ?_, ?_, ?_, ?_, Lib.hid (by rw [take_snoc HT.out]; exact hG.setC (a := ⟨w.heap.size + 1 + 1, 0, none⟩) (by simp) _)⟩
          · exact (Below.grown hbw hgrow (by simp; omega) (fun q e => by have := hrowlt q e; omega)).setCell (by simp; try omega) _
          · simp at hz3 ⊢; omega
          · exact ((BK0.keep hbA).grown hgrow (hne _ (by omega))).far (by simp; omega) _
          · exact ((BK1.keep hbA).grown hgrow (hne _ (by omega))).far (by simp) _
          · have hB := BY.set_ 0 (.slice (some ⟨gg, 0, none⟩) (k + 1) cap)
            simpa using hB
        case measure => simp [intOf]; omega
    · obtain rfl : k = n := by omega
      have hc1 := BK1.cell; have hf1 := BK1.frozen
      have HG1 := HG0.out
      rw [List.take_of_length_le (by rw [Hn.out]; exact Nat.le_refl _)] at HG1
      replace HG1 := Lib.hid HG1
      clear HG0
      go_wp2
      refine bodyPost_ret (v := .agg #[.slice A1 k c1]) (by simp [results, Try.results32, go_sem, hc1, hf1]) rfl ⟨A1, c1, css, rfl, (HG1.out.setC (a := ⟨w.heap.size + 1, 0, none⟩) (by simp) _).base (by omega), by (repeat (first | (with_reducible exact Below.refl _ _) | (with_reducible assumption) | ((with_reducible refine Below.setCell ?_ ?_ _); rotate_left; focus (first | omega | (simp; done) | (simp; omega))) | ((with_reducible refine Below.alloc ?_ ?_ _); rotate_left; focus (first | omega | (simp; done) | (simp; omega))) | (with_reducible refine Below.drew ?_) | (with_reducible refine below_drewN ?_ _) | (refine Below.trans ?_ (Below.mono (by with_reducible assumption) (by (first | omega | (simp; done) | (simp; omega)))))))⟩
set_option maxRecDepth 20000 in
set_option maxHeartbeats 3200000 in
theorem spec_l08Copy (A : Option Addr) (c : Nat) (ts : List Token) (w : World) (hr : SlRd TokenR w w.heap.size (.slice A ts.length c) ts) (hm : szList TokenR ts ≤ 1048576) :
    Calls Try.prog 46 #[.agg #[.slice A ts.length c]] w fun e w' => ∃ A1 c1 css, e = .returned (.agg #[.slice A1 ts.length c1]) ∧ Grow TokenR 35 w' w.heap.size A1 ts.length c1 css ts ∧ Below w.heap.size w w' := by
  obtain ⟨i0, hi0, hz0, hz1, hz2⟩ := info_parts info_Token
  have hml : ts.length ≤ 1048576 := Nat.le_trans (Nat.le_add_right _ _) hm
  have HNm := Lib.hid (fun k t (h : ts[k]? = some t) => names_small hm h)
  generalize hn : ts.length = n at *
  have Hn := Lib.hid hn
  clear hn hm
  go_enter Try.func46, Try.ntmps46
  go_wp2
  go_loopw [4] (fun i wr => ∃ (k : Nat) (A1 : Option Addr) (c1 : Nat) (css : List (List Value)), k ≤ n ∧ i = .int .i64 k ∧ Below w.heap.size w wr ∧ w.heap.size + 3 ≤ wr.heap.size ∧ Blk wr w.heap.size 26 #[.slice A n c] ∧ Blk wr (w.heap.size + 1) 26 #[.slice none 0 0] ∧ Blk wr (w.heap.size + 1 + 1) 26 #[.slice A1 k c1] ∧ Hid (Grow TokenR 35 wr (w.heap.size + 3) A1 k c1 css (ts.take k))) (fun i _ => n - (intOf i).toNat)
  case atStart => exact ⟨0, none, 0, [], Nat.zero_le _, rfl, by (repeat (first | (with_reducible exact Below.refl _ _) | (with_reducible assumption) | ((with_reducible refine Below.setCell ?_ ?_ _); rotate_left; focus (first | omega | (simp; done) | (simp; omega))) | ((with_reducible refine Below.alloc ?_ ?_ _); rotate_left; focus (first | omega | (simp; done) | (simp; omega))) | (with_reducible refine Below.drew ?_) | (with_reducible refine below_drewN ?_ _) | (refine Below.trans ?_ (Below.mono (by with_reducible assumption) (by (first | omega | (simp; done) | (simp; omega))))))), by simp, by (repeat (first | (with_reducible assumption) | ((with_reducible refine Blk.new' ?_); focus (simp; done)) | (with_reducible refine Blk.alloc ?_ _) | (with_reducible refine Blk.drew ?_) | (with_reducible refine Blk.drewN ?_ _) | ((with_reducible refine Blk.far ?_ ?_ _); rotate_left; focus (first | omega | (simp; done) | (simp; omega))) | (refine Blk.keep ?_ (by with_reducible assumption)) | (refine Blk.below ?_ (by with_reducible assumption) (by (first | omega | (simp; done) | (simp; omega)))))), by (repeat (first | (with_reducible assumption) | ((with_reducible refine Blk.new' ?_); focus (simp; done)) | (with_reducible refine Blk.alloc ?_ _) | (with_reducible refine Blk.drew ?_) | (with_reducible refine Blk.drewN ?_ _) | ((with_reducible refine Blk.far ?_ ?_ _); rotate_left; focus (first | omega | (simp; done) | (simp; omega))) | (refine Blk.keep ?_ (by with_reducible assumption)) | (refine Blk.below ?_ (by with_reducible assumption) (by (first | omega | (simp; done) | (simp; omega)))))), by (repeat (first | (with_reducible assumption) | ((with_reducible refine Blk.new' ?_); focus (simp; done)) | (with_reducible refine Blk.alloc ?_ _) | (with_reducible refine Blk.drew ?_) | (with_reducible refine Blk.drewN ?_ _) | ((with_reducible refine Blk.far ?_ ?_ _); rotate_left; focus (first | omega | (simp; done) | (simp; omega))) | (refine Blk.keep ?_ (by with_reducible assumption)) | (refine Blk.below ?_ (by with_reducible assumption) (by (first | omega | (simp; done) | (simp; omega)))))), Lib.hid (Grow.nil _ _ _ _)⟩
  case round =>
    obtain ⟨k, A1, c1, css, hk, rfl, hb, hzr, BK0, BK1, BK2, HG0⟩ := hrel
    have hc0 := BK0.cell; have hc2 := BK2.cell; have hf2 := BK2.frozen
    by_cases hlt : k < n
    · have hlx : k < ts.length := by rw [Hn.out]; exact hlt
      have HT := Lib.hid (List.getElem?_eq_getElem hlx)
      generalize ts[k]'hlx = t at HT
      clear hlx
      obtain ⟨b, off, An, cn, rfl, hab, hnm, hq0, hq1, hq2, hq3, hq4, hq5, hq6⟩ := tok_elem (hr.below hb (Nat.le_refl _)) HT.out
      obtain ⟨-, hnr, -, -, hns⟩ := rd_StringS hnm
      have HNs := Lib.hid hns
      have hnl := HNm.out k t HT.out
      clear hnm hns
      have hrow : wr.ownsRow (w.heap.size + 3) 35 7 (.slice A1 k c1) k css.flatten := HG0.out.row
      generalize hcf : css.flatten = cf at hrow
      have HCf := Lib.hid hcf
      clear hcf
      have hne : ∀ g, g < w.heap.size + 3 → some g ≠ (Value.slice A1 k c1).ownBlock := fun g hg e => by have := (hrow.lt _ e.symm).1; omega
      go_wp2
      have hbW : Below wr.heap.size wr wr.drew := by (repeat (first | (with_reducible exact Below.refl _ _) | (with_reducible assumption) | ((with_reducible refine Below.setCell ?_ ?_ _); rotate_left; focus (first | omega | (simp; done) | (simp; omega))) | ((with_reducible refine Below.alloc ?_ ?_ _); rotate_left; focus (first | omega | (simp; done) | (simp; omega))) | (with_reducible refine Below.drew ?_) | (with_reducible refine below_drewN ?_ _) | (refine Below.trans ?_ (Below.mono (by with_reducible assumption) (by (first | omega | (simp; done) | (simp; omega)))))))
      have BX2 : Blk wr.drew (w.heap.size + 1 + 1) 26 #[.slice A1 k c1] := by (repeat (first | (with_reducible assumption) | ((with_reducible refine Blk.new' ?_); focus (simp; done)) | (with_reducible refine Blk.alloc ?_ _) | (with_reducible refine Blk.drew ?_) | (with_reducible refine Blk.drewN ?_ _) | ((with_reducible refine Blk.far ?_ ?_ _); rotate_left; focus (first | omega | (simp; done) | (simp; omega))) | (refine Blk.keep ?_ (by with_reducible assumption)) | (refine Blk.below ?_ (by with_reducible assumption) (by (first | omega | (simp; done) | (simp; omega))))))
      have hcx := BX2.cell; have hfx := BX2.frozen
      have hrW : Reads wr.drew (wr.drew).heap.size An (t.Names.map strV) := (hnr.below (B' := wr.heap.size) hbW (by omega)).more (by simp; omega)
      have hro : World.ownsRow wr.drew (w.heap.size + 3) 35 7 (.slice A1 k c1) k cf := own_below hrow hbW
      have hzW : wr.heap.size ≤ (wr.drew).heap.size := hbW.size
      go_region_law (first | (go_loud (refine step_append_lies _ (by rfl) _ _ _ (by rfl) (w.heap.size + 3) 35 i0 _ 7 72 Try.underlying24 hi0 hz0 hz1 hz2 rfl (by omega) (.slice A1 k c1) k cf (by rfl) ((own_below hro hb2).alloc _) ⟨w2.heap.size, 0, none⟩ 1 1 [.int .i64 t.Id, .int .i64 t.Parent, .slice D t.Names.length d, .int .i64 t.Made, .int .i64 t.Ends, .int .i64 t.Limit, .int .i64 t.Uses] (by rfl) (by rfl) (World.news_of_block (cs := #[.int .i64 t.Id, .int .i64 t.Parent, .slice D t.Names.length d, .int .i64 t.Made, .int .i64 t.Ends, .int .i64 t.Limit, .int .i64 t.Uses]) (t := 35) (fr := (0, 0)) (heap_alloc_new w2 _)) (by simp [Value.oneCell']) (by omega) (by simp only [maxLen]; omega) (by omega) (by simp; omega) (w2.heap.size + 1) (by simp) ?_; intro gg cap w3 hown1 hgrow hat hlt1; have BY := Blk.grown (BX3.alloc (.cells #[.int .i64 t.Id, .int .i64 t.Parent, .slice D t.Names.length d, .int .i64 t.Made, .int .i64 t.Ends, .int .i64 t.Limit, .int .i64 t.Uses] 35)) hgrow (hne _ (by omega)); have hcY := BY.cell; have hfY := BY.frozen)) | (go_simp; go_at_call 36; refine (spec_l08CopyToken t An cn _ hrW (by omega)).mono ?_; rintro e w2 ⟨D, d, rfl, ho, hb2⟩; have hsz2 := hb2.size; have BX3 := BX2.keep hb2; have hc3 := BX3.cell; have hf3 := BX3.frozen; have BX4 := BX3.alloc (.cells #[.int .i64 t.Id, .int .i64 t.Parent, .slice D t.Names.length d, .int .i64 t.Made, .int .i64 t.Ends, .int .i64 t.Limit, .int .i64 t.Uses] 35); have hc4 := BX4.cell; have hf4 := BX4.frozen))
      all_goals
        go_wp2
        go_roundw
        case rel =>
          have hbA : Below wr.heap.size wr (w2.alloc (.cells #[.int .i64 t.Id, .int .i64 t.Parent, .slice D t.Names.length d, .int .i64 t.Made, .int .i64 t.Ends, .int .i64 t.Limit, .int .i64 t.Uses] 35)) := Below.alloc (hbW.trans (hb2.mono hzW)) (by omega) _
          have hoA := TokenR.own_keep (own_Token_row ho HNs.out) ((Below.refl _ w2).alloc (Nat.le_refl _) (.cells #[.int .i64 t.Id, .int .i64 t.Parent, .slice D t.Names.length d, .int .i64 t.Made, .int .i64 t.Ends, .int .i64 t.Limit, .int .i64 t.Uses] 35))
          have hG := Grow.snoc HG0.out hbA hoA hzW (by simp) (by omega) (by rw [HCf.out]; exact hown1) hgrow (hat.imp_right (fun h => by simpa using h))
          have hz3 := hgrow.size
          have hrowlt : ∀ q, (Value.slice A1 k c1).ownBlock = some q → w.heap.size + 3 ≤ q := fun q e => (hrow.lt q e).1
          have hbw : Below w.heap.size w (w2.alloc (.cells #[.int .i64 t.Id, .int .i64 t.Parent, .slice D t.Names.length d, .int .i64 t.Made, .int .i64 t.Ends, .int .i64 t.Limit, .int .i64 t.Uses] 35)) := hb.trans (hbA.mono (by omega))
          refine ⟨k + 1, some ⟨gg, 0, none⟩, cap, _, by omega, by go_num, ?_, ?_, ?_, ?_, ?_, Lib.hid (by rw [take_snoc HT.out]; exact hG.setC (a := ⟨w.heap.size + 1 + 1, 0, none⟩) (by simp) _)⟩
          · exact (Below.grown hbw hgrow (by simp; omega) (fun q e => by have := hrowlt q e; omega)).setCell (by simp; try omega) _
          · simp at hz3 ⊢; omega
          · exact ((BK0.keep hbA).grown hgrow (hne _ (by omega))).far (by simp; omega) _
          · exact ((BK1.keep hbA).grown hgrow (hne _ (by omega))).far (by simp) _
          · have hB := BY.set_ 0 (.slice (some ⟨gg, 0, none⟩) (k + 1) cap)
            simpa using hB
        case measure => simp [intOf]; omega
    · obtain rfl : k = n := by omega
      have hc1 := BK1.cell; have hf1 := BK1.frozen
      have HG1 := HG0.out
      rw [List.take_of_length_le (by rw [Hn.out]; exact Nat.le_refl _)] at HG1
      replace HG1 := Lib.hid HG1
      clear HG0
      go_wp2
      refine bodyPost_ret (v := .agg #[.slice A1 k c1]) (by simp [results, Try.results46, go_sem, hc1, hf1]) rfl ⟨A1, c1, css, rfl, (HG1.out.setC (a := ⟨w.heap.size + 1, 0, none⟩) (by simp) _).base (by omega), by (repeat (first | (with_reducible exact Below.refl _ _) | (with_reducible assumption) | ((with_reducible refine Below.setCell ?_ ?_ _); rotate_left; focus (first | omega | (simp; done) | (simp; omega))) | ((with_reducible refine Below.alloc ?_ ?_ _); rotate_left; focus (first | omega | (simp; done) | (simp; omega))) | (with_reducible refine Below.drew ?_) | (with_reducible refine below_drewN ?_ _) | (refine Below.trans ?_ (Below.mono (by with_reducible assumption) (by (first | omega | (simp; done) | (simp; omega)))))))⟩
end Go.Proofs.Ytcfhnhhgnophhaa

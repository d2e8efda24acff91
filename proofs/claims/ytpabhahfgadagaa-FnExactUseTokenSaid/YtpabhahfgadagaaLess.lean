/- spec.l08Less (printed by wip/gen/genwithout.py). -/
import Derived.Test.YtpabhahfgadagaaCopyF
import Derived.Test.YtpabhahfgadagaaPureWithout
set_option linter.unusedSimpArgs false
set_option linter.unusedVariables false
namespace Go.Proofs.Ytpabhahfgadagaa
open Go.RowKit
set_option maxRecDepth 20000 in
set_option maxHeartbeats 3200000 in
theorem spec_l08Less (A : Option Addr) (c : Nat) (ts : List Token) (Ag : Option Addr) (cg : Nat) (gone : List Int) (w : World) (hr : SlRd TokenR w w.heap.size (.slice A ts.length c) ts) (hm : szList TokenR ts ≤ 1048576) (hgr : Reads w w.heap.size Ag (gone.map intV)) (hgm : gone.length ≤ 140737488351232) :
    Calls Try.prog 47 #[.agg #[.slice A ts.length c], .slice Ag gone.length cg] w fun e w' => ∃ A1 c1 css, e = .returned (.agg #[.slice A1 (lessT ts gone).length c1]) ∧ Grow TokenR 36 w' w.heap.size A1 (lessT ts gone).length c1 css (lessT ts gone) ∧ Below w.heap.size w w' := by
  obtain ⟨i0, hi0, hz0, hz1, hz2⟩ := info_parts info_Token
  have hml : ts.length ≤ 1048576 := Nat.le_trans (Nat.le_add_right _ _) hm
  have HNm := Lib.hid (fun k t (h : ts[k]? = some t) => names_small hm h)
  have HHas := Lib.hid (fun (x : Int) (b : Bool) (hx : hasB gone x = b) (w' : World) (hb : Below w.heap.size w w') (hz : w.heap.size ≤ w'.heap.size) => (hx ▸ spec_l01Has Ag cg gone x w' (hgr.keep hb hz) hgm : Calls Try.prog 46 #[.slice Ag gone.length cg, .int .i64 x] w' fun e w'' => e = .returned (.bool b) ∧ w' = w''))
  generalize hgl : gone.length = ng at *
  clear hgl hgm
  generalize hn : ts.length = n at *
  have Hn := Lib.hid hn
  clear hn hm
  go_enter Try.func47, Try.ntmps47
  go_wp2
  go_loopw [6] (fun i wr => ∃ (k : Nat) (A1 : Option Addr) (c1 : Nat) (css : List (List Value)) (ls : List Token), k ≤ n ∧ i = .int .i64 k ∧ ls.length ≤ k ∧ Below w.heap.size w wr ∧ w.heap.size + 3 ≤ wr.heap.size ∧ Blk wr w.heap.size 32 #[.slice A n c] ∧ Blk wr (w.heap.size + 1) 32 #[.slice none 0 0] ∧ Blk wr (w.heap.size + 1 + 1) 32 #[.slice A1 ls.length c1] ∧ Hid (Grow TokenR 36 wr (w.heap.size + 3) A1 ls.length c1 css ls) ∧ Hid (ls = lessT (ts.take k) gone)) (fun i _ => n - (intOf i).toNat)
  case atStart => exact ⟨0, none, 0, [], [], Nat.zero_le _, rfl, Nat.zero_le _, by (repeat (first | (with_reducible exact Below.refl _ _) | (with_reducible assumption) | ((with_reducible refine Below.setCell ?_ ?_ _); rotate_left; focus (first | omega | (simp; done) | (simp; omega))) | ((with_reducible refine Below.alloc ?_ ?_ _); rotate_left; focus (first | omega | (simp; done) | (simp; omega))) | (with_reducible refine Below.drew ?_) | (with_reducible refine below_drewN ?_ _) | (refine Below.trans ?_ (Below.mono (by with_reducible assumption) (by (first | omega | (simp; done) | (simp; omega))))))), by simp, by (repeat (first | (with_reducible assumption) | ((with_reducible refine Blk.new' ?_); focus (simp; done)) | (with_reducible refine Blk.alloc ?_ _) | (with_reducible refine Blk.drew ?_) | (with_reducible refine Blk.drewN ?_ _) | ((with_reducible refine Blk.far ?_ ?_ _); rotate_left; focus (first | omega | (simp; done) | (simp; omega))) | (refine Blk.keep ?_ (by with_reducible assumption)) | (refine Blk.below ?_ (by with_reducible assumption) (by (first | omega | (simp; done) | (simp; omega)))))), by (repeat (first | (with_reducible assumption) | ((with_reducible refine Blk.new' ?_); focus (simp; done)) | (with_reducible refine Blk.alloc ?_ _) | (with_reducible refine Blk.drew ?_) | (with_reducible refine Blk.drewN ?_ _) | ((with_reducible refine Blk.far ?_ ?_ _); rotate_left; focus (first | omega | (simp; done) | (simp; omega))) | (refine Blk.keep ?_ (by with_reducible assumption)) | (refine Blk.below ?_ (by with_reducible assumption) (by (first | omega | (simp; done) | (simp; omega)))))), (by (repeat (first | (with_reducible assumption) | ((with_reducible refine Blk.new' ?_); focus (simp; done)) | (with_reducible refine Blk.alloc ?_ _) | (with_reducible refine Blk.drew ?_) | (with_reducible refine Blk.drewN ?_ _) | ((with_reducible refine Blk.far ?_ ?_ _); rotate_left; focus (first | omega | (simp; done) | (simp; omega))) | (refine Blk.keep ?_ (by with_reducible assumption)) | (refine Blk.below ?_ (by with_reducible assumption) (by (first | omega | (simp; done) | (simp; omega)))))) : Blk _ _ 32 #[.slice none 0 0]), Lib.hid (Grow.nil _ _ _ _), Lib.hid rfl⟩
  case round =>
    obtain ⟨k, A1, c1, css, ls, hk, rfl, hls, hb, hzr, BK0, BK1, BK2, HG0, HL⟩ := hrel
    have hc0 := BK0.cell; have hc2 := BK2.cell; have hf2 := BK2.frozen
    by_cases hlt : k < n
    · skip
      have hlx : k < ts.length := by rw [Hn.out]; exact hlt
      have HT := Lib.hid (List.getElem?_eq_getElem hlx)
      generalize ts[k]'hlx = t at HT
      clear hlx
      obtain ⟨b, off, An, cn, rfl, hab, hnm, hq0, hq1, hq2, hq3, hq4, hq5, hq6⟩ := tok_elem (hr.below hb (Nat.le_refl _)) HT.out
      obtain ⟨-, hnr, -, -, hns⟩ := rd_StringS hnm
      have HNs := Lib.hid hns
      have hnl := HNm.out k t HT.out
      clear hnm hns
      cases hx : hasB gone t.Id
      · have HX := Lib.hid hx
        clear hx
        have hrow : wr.ownsRow (w.heap.size + 3) 36 7 (.slice A1 ls.length c1) ls.length css.flatten := HG0.out.row
        generalize hcf : css.flatten = cf at hrow
        have HCf := Lib.hid hcf
        clear hcf
        have hne : ∀ g, g < w.heap.size + 3 → some g ≠ (Value.slice A1 ls.length c1).ownBlock := fun g hg e => by have := (hrow.lt _ e.symm).1; omega
        go_wp2_with (go_at_call 46; refine (HHas.out _ _ HX.out _ (by (repeat (first | (with_reducible exact Below.refl _ _) | (with_reducible assumption) | ((with_reducible refine Below.setCell ?_ ?_ _); rotate_left; focus (first | omega | (simp; done) | (simp; omega))) | ((with_reducible refine Below.alloc ?_ ?_ _); rotate_left; focus (first | omega | (simp; done) | (simp; omega))) | (with_reducible refine Below.drew ?_) | (with_reducible refine below_drewN ?_ _) | (refine Below.trans ?_ (Below.mono (by with_reducible assumption) (by (first | omega | (simp; done) | (simp; omega)))))))) (by omega)).mono ?_; rintro e w' ⟨rfl, rfl⟩)
        have hbW : Below wr.heap.size wr wr.drew := by (repeat (first | (with_reducible exact Below.refl _ _) | (with_reducible assumption) | ((with_reducible refine Below.setCell ?_ ?_ _); rotate_left; focus (first | omega | (simp; done) | (simp; omega))) | ((with_reducible refine Below.alloc ?_ ?_ _); rotate_left; focus (first | omega | (simp; done) | (simp; omega))) | (with_reducible refine Below.drew ?_) | (with_reducible refine below_drewN ?_ _) | (refine Below.trans ?_ (Below.mono (by with_reducible assumption) (by (first | omega | (simp; done) | (simp; omega)))))))
        have BX2 : Blk wr.drew (w.heap.size + 1 + 1) 32 #[.slice A1 ls.length c1] := by (repeat (first | (with_reducible assumption) | ((with_reducible refine Blk.new' ?_); focus (simp; done)) | (with_reducible refine Blk.alloc ?_ _) | (with_reducible refine Blk.drew ?_) | (with_reducible refine Blk.drewN ?_ _) | ((with_reducible refine Blk.far ?_ ?_ _); rotate_left; focus (first | omega | (simp; done) | (simp; omega))) | (refine Blk.keep ?_ (by with_reducible assumption)) | (refine Blk.below ?_ (by with_reducible assumption) (by (first | omega | (simp; done) | (simp; omega))))))
        have hcx := BX2.cell; have hfx := BX2.frozen
        have hrW : Reads wr.drew (wr.drew).heap.size An (t.Names.map strV) := (hnr.below (B' := wr.heap.size) hbW (by omega)).more (Nat.le_trans (by omega) hbW.size)
        have hro : World.ownsRow wr.drew (w.heap.size + 3) 36 7 (.slice A1 ls.length c1) ls.length cf := own_below hrow hbW
        have hzW : wr.heap.size ≤ (wr.drew).heap.size := hbW.size
        go_region_law (first | (refine step_append_lies _ (by rfl) _ _ _ (by rfl) (w.heap.size + 3) 36 i0 _ 7 72 Try.underlying30 hi0 hz0 hz1 hz2 rfl (by omega) (.slice A1 ls.length c1) ls.length cf (by rfl) ((own_below hro hb2).alloc _) ⟨w2.heap.size, 0, none⟩ 1 1 [.int .i64 t.Id, .int .i64 t.Parent, .slice D t.Names.length d, .int .i64 t.Made, .int .i64 t.Ends, .int .i64 t.Limit, .int .i64 t.Uses] (by rfl) (by rfl) (World.news_of_block (cs := #[.int .i64 t.Id, .int .i64 t.Parent, .slice D t.Names.length d, .int .i64 t.Made, .int .i64 t.Ends, .int .i64 t.Limit, .int .i64 t.Uses]) (t := 36) (fr := (0, 0)) (heap_alloc_new w2 _)) (by simp [Value.oneCell']) (by omega) (by simp only [maxLen]; omega) (by omega) (by simp; omega) (w2.heap.size + 1) (by simp) ?_; intro gg cap w3 hown1 hgrow hat hlt1; have BY := Blk.grown (BX3.alloc (.cells #[.int .i64 t.Id, .int .i64 t.Parent, .slice D t.Names.length d, .int .i64 t.Made, .int .i64 t.Ends, .int .i64 t.Limit, .int .i64 t.Uses] 36)) hgrow (hne _ (by omega)); have hcY := BY.cell; have hfY := BY.frozen) | (go_simp; go_at_call 35; refine (spec_l08CopyToken t An cn _ hrW (by omega)).mono ?_; rintro e w2 ⟨D, d, rfl, ho, hb2⟩; have hsz2 := hb2.size; have BX3 := BX2.keep hb2; have hc3 := BX3.cell; have hf3 := BX3.frozen; have BX4 := BX3.alloc (.cells #[.int .i64 t.Id, .int .i64 t.Parent, .slice D t.Names.length d, .int .i64 t.Made, .int .i64 t.Ends, .int .i64 t.Limit, .int .i64 t.Uses] 36); have hc4 := BX4.cell; have hf4 := BX4.frozen))
        all_goals
          go_wp2
          go_roundw
          case rel =>
            have hbA : Below wr.heap.size wr (w2.alloc (.cells #[.int .i64 t.Id, .int .i64 t.Parent, .slice D t.Names.length d, .int .i64 t.Made, .int .i64 t.Ends, .int .i64 t.Limit, .int .i64 t.Uses] 36)) := Below.alloc (hbW.trans (hb2.mono hzW)) (by omega) _
            have hoA := TokenR.own_keep (own_Token_row ho HNs.out) ((Below.refl _ w2).alloc (Nat.le_refl _) (.cells #[.int .i64 t.Id, .int .i64 t.Parent, .slice D t.Names.length d, .int .i64 t.Made, .int .i64 t.Ends, .int .i64 t.Limit, .int .i64 t.Uses] 36))
            have hG := Grow.snoc HG0.out hbA hoA hzW (by simp) (by omega) (by rw [HCf.out]; exact hown1) hgrow (hat.imp_right (fun h => by simpa using h))
            have hz3 := hgrow.size
            have hrowlt : ∀ q, (Value.slice A1 ls.length c1).ownBlock = some q → w.heap.size + 3 ≤ q := fun q e => (hrow.lt q e).1
            have hbw : Below w.heap.size w (w2.alloc (.cells #[.int .i64 t.Id, .int .i64 t.Parent, .slice D t.Names.length d, .int .i64 t.Made, .int .i64 t.Ends, .int .i64 t.Limit, .int .i64 t.Uses] 36)) := hb.trans (hbA.mono (by omega))
            refine ⟨k + 1, some ⟨gg, 0, none⟩, cap, _, ls ++ [t], by omega, by go_num, by simp; omega, ?_, ?_, ?_, ?_, ?_, Lib.hid (by rw [List.length_append]; exact hG.setC (a := ⟨w.heap.size + 1 + 1, 0, none⟩) (by simp) _), Lib.hid (by rw [lessT_kept HT.out HX.out, HL.out])⟩
            · exact (Below.grown hbw hgrow (by simp; omega) (fun q e => by have := hrowlt q e; omega)).setCell (by simp; try omega) _
            · simp at hz3 ⊢; omega
            · exact ((BK0.keep hbA).grown hgrow (hne _ (by omega))).far (by simp; omega) _
            · exact ((BK1.keep hbA).grown hgrow (hne _ (by omega))).far (by simp) _
            · have hB := BY.set_ 0 (.slice (some ⟨gg, 0, none⟩) (ls.length + 1) cap)
              rw [List.length_append]
              simpa using hB
          case measure => simp [intOf]; omega
      · have HX := Lib.hid hx
        clear hx
        go_wp2_with (go_at_call 46; refine (HHas.out _ _ HX.out _ (by (repeat (first | (with_reducible exact Below.refl _ _) | (with_reducible assumption) | ((with_reducible refine Below.setCell ?_ ?_ _); rotate_left; focus (first | omega | (simp; done) | (simp; omega))) | ((with_reducible refine Below.alloc ?_ ?_ _); rotate_left; focus (first | omega | (simp; done) | (simp; omega))) | (with_reducible refine Below.drew ?_) | (with_reducible refine below_drewN ?_ _) | (refine Below.trans ?_ (Below.mono (by with_reducible assumption) (by (first | omega | (simp; done) | (simp; omega)))))))) (by omega)).mono ?_; rintro e w' ⟨rfl, rfl⟩)
        go_roundw
        case rel => exact ⟨k + 1, A1, c1, css, ls, by omega, by go_num, by omega, hb, hzr, BK0, BK1, BK2, HG0, Lib.hid (by rw [lessT_gone HT.out HX.out, HL.out])⟩
        case measure => simp [intOf]; omega
    · obtain rfl : k = n := by omega
      have hc1 := BK1.cell; have hf1 := BK1.frozen
      have hll : Hid (ls = lessT ts gone) := Lib.hid (by rw [HL.out, List.take_of_length_le (by rw [Hn.out]; exact Nat.le_refl _)])
      go_wp2
      refine bodyPost_ret (v := .agg #[.slice A1 ls.length c1]) (by simp [results, Try.results47, go_sem, hc1, hf1]) rfl ⟨A1, c1, css, by rw [hll.out], ?_, by (repeat (first | (with_reducible exact Below.refl _ _) | (with_reducible assumption) | ((with_reducible refine Below.setCell ?_ ?_ _); rotate_left; focus (first | omega | (simp; done) | (simp; omega))) | ((with_reducible refine Below.alloc ?_ ?_ _); rotate_left; focus (first | omega | (simp; done) | (simp; omega))) | (with_reducible refine Below.drew ?_) | (with_reducible refine below_drewN ?_ _) | (refine Below.trans ?_ (Below.mono (by with_reducible assumption) (by (first | omega | (simp; done) | (simp; omega)))))))⟩
      rw [← hll.out]
      exact (HG0.out.setC (a := ⟨w.heap.size + 1, 0, none⟩) (by simp) _).base (by omega)
end Go.Proofs.Ytpabhahfgadagaa

/- impl.without (printed by wip/gen/genwithout.py). -/
import Derived.Test.YtcfhnhhgnophhaaCopyF
import Derived.Test.YtcfhnhhgnophhaaPkPure
import Derived.Test.YtcfhnhhgnophhaaTwo
set_option linter.unusedSimpArgs false
set_option linter.unusedVariables false
set_option maxRecDepth 20000
namespace Go.Proofs.Ytcfhnhhgnophhaa
open Go.RowKit
set_option maxRecDepth 20000 in
set_option maxHeartbeats 6400000 in
theorem impl_without_Below (p : Addr) (pr : Token → Bool) (A : Option Addr) (c : Nat) (ts : List Token) (w : World) (hr : SlRd TokenR w w.heap.size (.slice A ts.length c) ts) (hm : szList TokenR ts ≤ 1048576)
    (hK : ∀ (t : Token) (A : Option Addr) (c : Nat) (w' : World), Below w.heap.size w w' → Calls Try.prog 40 #[.agg #[.int .i64 t.Id, .int .i64 t.Parent, .slice A t.Names.length c, .int .i64 t.Made, .int .i64 t.Ends, .int .i64 t.Limit, .int .i64 t.Uses], .pointer (some p)] w' fun e w'' => e = .returned (.bool (pr t)) ∧ Below w'.heap.size w' w'') :
    Calls Try.prog 33 #[.agg #[.slice A ts.length c], .func (.func 40) #[] #[.pointer (some p)]] w fun e w' => ∃ A1 c1 css B1 d1, e = .returned (.tuple #[.agg #[.slice A1 (wFold pr ts).1.length c1], .slice B1 (wFold pr ts).2.length d1]) ∧ Two TokenR 35 w' w.heap.size A1 (wFold pr ts).1.length c1 css (wFold pr ts).1 B1 (wFold pr ts).2.length d1 (wFold pr ts).2 ∧ Below w.heap.size w w' := by
  obtain ⟨i0, hi0, hz0, hz1, hz2⟩ := info_parts info_Token
  obtain ⟨j0, hj0, hJ0, hJ1, hJ2⟩ := info_parts info_int
  have hml : ts.length ≤ 1048576 := Nat.le_trans (Nat.le_add_right _ _) hm
  have HNm := Lib.hid (fun k t (h : ts[k]? = some t) => names_small hm h)
  have HK := Lib.hid (fun (t : Token) (A : Option Addr) (c : Nat) (b : Bool) (hb' : pr t = b) (w' : World) (hb : Below w.heap.size w w') => (hb' ▸ hK t A c w' hb : Calls Try.prog 40 #[.agg #[.int .i64 t.Id, .int .i64 t.Parent, .slice A t.Names.length c, .int .i64 t.Made, .int .i64 t.Ends, .int .i64 t.Limit, .int .i64 t.Uses], .pointer (some p)] w' fun e w'' => e = .returned (.bool b) ∧ Below w'.heap.size w' w''))
  generalize hn : ts.length = n at *
  have Hn := Lib.hid hn
  clear hn hm hK
  go_enter Try.func33, Try.ntmps33
  go_wp2
  go_loopw [7, 13] (fun sl i wr => ∃ (k : Nat) (A1 : Option Addr) (c1 : Nat) (css : List (List Value)) (ls : List Token) (B1 : Option Addr) (d1 : Nat) (ys : List Int), k ≤ n ∧ i = .int .i64 k ∧ sl = .slice B1 ys.length d1 ∧ ls.length ≤ k ∧ ys.length ≤ k ∧ Below w.heap.size w wr ∧ w.heap.size + 3 ≤ wr.heap.size ∧ Blk wr w.heap.size 26 #[.slice A n c] ∧ Blk wr (w.heap.size + 1) 26 #[.slice none 0 0] ∧ Blk wr (w.heap.size + 1 + 1) 26 #[.slice A1 ls.length c1] ∧ Hid (Two TokenR 35 wr (w.heap.size + 3) A1 ls.length c1 css ls B1 ys.length d1 ys) ∧ Hid (wFold pr (ts.take k) = (ls, ys))) (fun _ i _ => n - (intOf i).toNat)
  case atStart => exact ⟨0, none, 0, [], [], none, 0, [], Nat.zero_le _, rfl, rfl, Nat.zero_le _, Nat.zero_le _, by (repeat (first | (with_reducible exact Below.refl _ _) | (with_reducible assumption) | ((with_reducible refine Below.setCell ?_ ?_ _); rotate_left; focus (first | omega | (simp; done) | (simp; omega))) | ((with_reducible refine Below.alloc ?_ ?_ _); rotate_left; focus (first | omega | (simp; done) | (simp; omega))) | (with_reducible refine Below.drew ?_) | (with_reducible refine below_drewN ?_ _) | (refine Below.trans ?_ (Below.mono (by with_reducible assumption) (by (first | omega | (simp; done) | (simp; omega))))))), by simp, by (repeat (first | (with_reducible assumption) | ((with_reducible refine Blk.new' ?_); focus (simp; done)) | (with_reducible refine Blk.alloc ?_ _) | (with_reducible refine Blk.drew ?_) | (with_reducible refine Blk.drewN ?_ _) | ((with_reducible refine Blk.far ?_ ?_ _); rotate_left; focus (first | omega | (simp; done) | (simp; omega))) | (refine Blk.keep ?_ (by with_reducible assumption)) | (refine Blk.below ?_ (by with_reducible assumption) (by (first | omega | (simp; done) | (simp; omega)))))), by (repeat (first | (with_reducible assumption) | ((with_reducible refine Blk.new' ?_); focus (simp; done)) | (with_reducible refine Blk.alloc ?_ _) | (with_reducible refine Blk.drew ?_) | (with_reducible refine Blk.drewN ?_ _) | ((with_reducible refine Blk.far ?_ ?_ _); rotate_left; focus (first | omega | (simp; done) | (simp; omega))) | (refine Blk.keep ?_ (by with_reducible assumption)) | (refine Blk.below ?_ (by with_reducible assumption) (by (first | omega | (simp; done) | (simp; omega)))))), (by (repeat (first | (with_reducible assumption) | ((with_reducible refine Blk.new' ?_); focus (simp; done)) | (with_reducible refine Blk.alloc ?_ _) | (with_reducible refine Blk.drew ?_) | (with_reducible refine Blk.drewN ?_ _) | ((with_reducible refine Blk.far ?_ ?_ _); rotate_left; focus (first | omega | (simp; done) | (simp; omega))) | (refine Blk.keep ?_ (by with_reducible assumption)) | (refine Blk.below ?_ (by with_reducible assumption) (by (first | omega | (simp; done) | (simp; omega)))))) : Blk _ _ 26 #[.slice none 0 0]), Lib.hid (Two.nil _ _ _ _), Lib.hid rfl⟩
  case round =>
    obtain ⟨k, A1, c1, css, ls, B1, d1, ys, hk, rfl, rfl, hls, hys, hb, hzr, BK0, BK1, BK2, HG0, HL⟩ := hrel
    have hc0 := BK0.cell; have hc2 := BK2.cell; have hf2 := BK2.frozen
    by_cases hlt : k < n
    · skip
      have hlx : k < ts.length := by rw [Hn.out]; exact hlt
      have HT := Lib.hid (List.getElem?_eq_getElem hlx)
      generalize ts[k]'hlx = t at HT
      clear hlx
      obtain ⟨b, off, An, cn, rfl, hab, hnm, hq0, hq1, hq2, hq3, hq4, hq5, hq6⟩ := tok_elem (hr.below hb (Nat.le_refl _)) HT.out
      obtain ⟨-, hnr, -, -, hns⟩ := rd_StringS hnm
      have HNs := Lib.hid hns
      have hnl := HNm.out k t HT.out
      clear hnm hns
      cases hx : pr t
      rotate_left
      · have HX := Lib.hid hx
        have HW : Hid ((pr t || hasB ys t.Parent) = true) := Lib.hid (by rw [hx]; rfl)
        clear hx
        go_wp2_with fail
        refine (HK.out t An cn _ HX.out _ (by (repeat (first | (with_reducible exact Below.refl _ _) | (with_reducible assumption) | ((with_reducible refine Below.setCell ?_ ?_ _); rotate_left; focus (first | omega | (simp; done) | (simp; omega))) | ((with_reducible refine Below.alloc ?_ ?_ _); rotate_left; focus (first | omega | (simp; done) | (simp; omega))) | (with_reducible refine Below.drew ?_) | (with_reducible refine below_drewN ?_ _) | (refine Below.trans ?_ (Below.mono (by with_reducible assumption) (by (first | omega | (simp; done) | (simp; omega))))))))).mono ?_
        rintro e w4 ⟨rfl, hb4⟩
        have hz4 := hb4.size; try simp at hz4
        have BT : Blk w4 wr.heap.size 35 #[.int .i64 t.Id, .int .i64 t.Parent, .slice An t.Names.length cn, .int .i64 t.Made, .int .i64 t.Ends, .int .i64 t.Limit, .int .i64 t.Uses] := by (repeat (first | (with_reducible assumption) | ((with_reducible refine Blk.new' ?_); focus (simp; done)) | (with_reducible refine Blk.alloc ?_ _) | (with_reducible refine Blk.drew ?_) | (with_reducible refine Blk.drewN ?_ _) | ((with_reducible refine Blk.far ?_ ?_ _); rotate_left; focus (first | omega | (simp; done) | (simp; omega))) | (refine Blk.keep ?_ (by with_reducible assumption)) | (refine Blk.below ?_ (by with_reducible assumption) (by (first | omega | (simp; done) | (simp; omega))))))
        have hct := BT.cell; have hft := BT.frozen; have hlt4 := BT.lt
        have hb4r : Below wr.heap.size wr w4 := by (repeat (first | (with_reducible exact Below.refl _ _) | (with_reducible assumption) | ((with_reducible refine Below.setCell ?_ ?_ _); rotate_left; focus (first | omega | (simp; done) | (simp; omega))) | ((with_reducible refine Below.alloc ?_ ?_ _); rotate_left; focus (first | omega | (simp; done) | (simp; omega))) | (with_reducible refine Below.drew ?_) | (with_reducible refine below_drewN ?_ _) | (refine Below.trans ?_ (Below.mono (by with_reducible assumption) (by (first | omega | (simp; done) | (simp; omega)))))))
        replace BK0 := BK0.keep hb4r; replace BK1 := BK1.keep hb4r; replace BK2 := BK2.keep hb4r
        replace hc0 := BK0.cell; replace hc2 := BK2.cell; replace hf2 := BK2.frozen
        have hir : wr.ownsRow (w.heap.size + 3) 3 1 (.slice B1 ys.length d1) ys.length (ys.map intV) := HG0.out.irow
        have hirw := own_below hir hb4r
        have hirlt : ∀ q, (Value.slice B1 ys.length d1).ownBlock = some q → w.heap.size + 3 ≤ q ∧ q < wr.heap.size := fun q e => hir.lt q e
        go_wp2_with (first | (at_builtin; go_loud (refine wpList_append_own_at _ rfl _ _ 30 rfl (w.heap.size + 3) 3 j0 (.int .i64 0) 1 8 Try.underlying30 hj0 hJ0 hJ1 hJ2 rfl (by decide) _ _ _ rfl (hirw.alloc _) ⟨w4.heap.size, 0, none⟩ 1 1 [.int .i64 t.Id] rfl rfl ?c1 ?c2 ?c3 ?c4 ?c5 ?_; (case c1 => exact cell_one_new _ _ _); (case c2 => simp [Value.oneCell']); (case c3 => (simp only [maxLen]; omega)); (case c4 => omega); (case c5 => (simp; omega)); intro v' wA hown1 hgrow hnil hat; obtain ⟨gg, cap, rfl, hg1, hg2⟩ := hown1.form (by omega))))
        go_roundw
        case rel =>
          have hbA : Below wr.heap.size wr (w4.alloc (.cells #[.int .i64 t.Id] 3)) := Below.alloc hb4r (by omega) _
          have hG := HG0.out.snocI hbA t.Id hown1 hgrow (hat.elim (fun h => .inl h.symm) (fun h => .inr (by simpa [Value.ownBlock] using h)))
          have hzA := hgrow.size
          simp at hzA
          have hneA : ∀ q, q < w.heap.size + 3 → some q ≠ (Value.slice B1 ys.length d1).ownBlock := fun q hq e => by have := hirlt q e.symm; omega
          refine ⟨k + 1, A1, c1, css, ls, some ⟨gg, 0, none⟩, cap, ys ++ [t.Id], by omega, by go_num, by rw [List.length_append]; rfl, by omega, by simp; omega, ?_, by omega, ?_, ?_, ?_, Lib.hid (by rw [List.length_append]; exact hG), Lib.hid (by rw [wFold_snoc HT.out, HL.out, wStep_gone HW.out])⟩
          · exact Below.grown (hb.trans (hbA.mono (by omega))) hgrow (by simp; omega) (fun q e => by have := hirlt q e; omega)
          · exact (BK0.alloc _).grown hgrow (hneA _ (by omega))
          · exact (BK1.alloc _).grown hgrow (hneA _ (by omega))
          · exact (BK2.alloc _).grown hgrow (hneA _ (by omega))
        case measure => simp [intOf]; omega
      have HX := Lib.hid hx
      have HHas := Lib.hid (fun (w' : World) (h : Reads w' w'.heap.size B1 (ys.map intV)) => slices_Contains_int B1 d1 ys t.Parent w' h (by omega))
      go_wp2_with fail
      refine (HK.out t An cn _ HX.out _ (by (repeat (first | (with_reducible exact Below.refl _ _) | (with_reducible assumption) | ((with_reducible refine Below.setCell ?_ ?_ _); rotate_left; focus (first | omega | (simp; done) | (simp; omega))) | ((with_reducible refine Below.alloc ?_ ?_ _); rotate_left; focus (first | omega | (simp; done) | (simp; omega))) | (with_reducible refine Below.drew ?_) | (with_reducible refine below_drewN ?_ _) | (refine Below.trans ?_ (Below.mono (by with_reducible assumption) (by (first | omega | (simp; done) | (simp; omega))))))))).mono ?_
      rintro e w4 ⟨rfl, hb4⟩
      have hz4 := hb4.size; try simp at hz4
      have BT : Blk w4 wr.heap.size 35 #[.int .i64 t.Id, .int .i64 t.Parent, .slice An t.Names.length cn, .int .i64 t.Made, .int .i64 t.Ends, .int .i64 t.Limit, .int .i64 t.Uses] := by (repeat (first | (with_reducible assumption) | ((with_reducible refine Blk.new' ?_); focus (simp; done)) | (with_reducible refine Blk.alloc ?_ _) | (with_reducible refine Blk.drew ?_) | (with_reducible refine Blk.drewN ?_ _) | ((with_reducible refine Blk.far ?_ ?_ _); rotate_left; focus (first | omega | (simp; done) | (simp; omega))) | (refine Blk.keep ?_ (by with_reducible assumption)) | (refine Blk.below ?_ (by with_reducible assumption) (by (first | omega | (simp; done) | (simp; omega))))))
      have hct := BT.cell; have hft := BT.frozen; have hlt4 := BT.lt
      have hb4r : Below wr.heap.size wr w4 := by (repeat (first | (with_reducible exact Below.refl _ _) | (with_reducible assumption) | ((with_reducible refine Below.setCell ?_ ?_ _); rotate_left; focus (first | omega | (simp; done) | (simp; omega))) | ((with_reducible refine Below.alloc ?_ ?_ _); rotate_left; focus (first | omega | (simp; done) | (simp; omega))) | (with_reducible refine Below.drew ?_) | (with_reducible refine below_drewN ?_ _) | (refine Below.trans ?_ (Below.mono (by with_reducible assumption) (by (first | omega | (simp; done) | (simp; omega)))))))
      replace BK0 := BK0.keep hb4r; replace BK1 := BK1.keep hb4r; replace BK2 := BK2.keep hb4r
      replace hc0 := BK0.cell; replace hc2 := BK2.cell; replace hf2 := BK2.frozen
      have HRd : Hid (Reads w4 w4.heap.size B1 (ys.map intV)) := Lib.hid (Reads.of_own (own_below HG0.out.irow hb4r))
      replace HHas := Lib.hid (HHas.out w4 HRd.out)
      clear HRd
      cases hh : hasB ys t.Parent
      rotate_left
      · have HW : Hid ((pr t || hasB ys t.Parent) = true) := Lib.hid (by rw [hx, hh]; rfl)
        rw [hh] at HHas
        clear hx hh
        have hir : wr.ownsRow (w.heap.size + 3) 3 1 (.slice B1 ys.length d1) ys.length (ys.map intV) := HG0.out.irow
        have hirw := own_below hir hb4r
        have hirlt : ∀ q, (Value.slice B1 ys.length d1).ownBlock = some q → w.heap.size + 3 ≤ q ∧ q < wr.heap.size := fun q e => hir.lt q e
        go_wp2_with (first | (go_at_call 62; refine HHas.out.mono ?_; rintro e w' ⟨rfl, rfl⟩) | (at_builtin; go_loud (refine wpList_append_own_at _ rfl _ _ 30 rfl (w.heap.size + 3) 3 j0 (.int .i64 0) 1 8 Try.underlying30 hj0 hJ0 hJ1 hJ2 rfl (by decide) _ _ _ rfl (hirw.alloc _) ⟨w4.heap.size, 0, none⟩ 1 1 [.int .i64 t.Id] rfl rfl ?c1 ?c2 ?c3 ?c4 ?c5 ?_; (case c1 => exact cell_one_new _ _ _); (case c2 => simp [Value.oneCell']); (case c3 => (simp only [maxLen]; omega)); (case c4 => omega); (case c5 => (simp; omega)); intro v' wA hown1 hgrow hnil hat; obtain ⟨gg, cap, rfl, hg1, hg2⟩ := hown1.form (by omega))))
        go_roundw
        case rel =>
          have hbA : Below wr.heap.size wr (w4.alloc (.cells #[.int .i64 t.Id] 3)) := Below.alloc hb4r (by omega) _
          have hG := HG0.out.snocI hbA t.Id hown1 hgrow (hat.elim (fun h => .inl h.symm) (fun h => .inr (by simpa [Value.ownBlock] using h)))
          have hzA := hgrow.size
          simp at hzA
          have hneA : ∀ q, q < w.heap.size + 3 → some q ≠ (Value.slice B1 ys.length d1).ownBlock := fun q hq e => by have := hirlt q e.symm; omega
          refine ⟨k + 1, A1, c1, css, ls, some ⟨gg, 0, none⟩, cap, ys ++ [t.Id], by omega, by go_num, by rw [List.length_append]; rfl, by omega, by simp; omega, ?_, by omega, ?_, ?_, ?_, Lib.hid (by rw [List.length_append]; exact hG), Lib.hid (by rw [wFold_snoc HT.out, HL.out, wStep_gone HW.out])⟩
          · exact Below.grown (hb.trans (hbA.mono (by omega))) hgrow (by simp; omega) (fun q e => by have := hirlt q e; omega)
          · exact (BK0.alloc _).grown hgrow (hneA _ (by omega))
          · exact (BK1.alloc _).grown hgrow (hneA _ (by omega))
          · exact (BK2.alloc _).grown hgrow (hneA _ (by omega))
        case measure => simp [intOf]; omega
      have HW : Hid ((pr t || hasB ys t.Parent) = false) := Lib.hid (by rw [hx, hh]; rfl)
      rw [hh] at HHas
      clear hx hh
      have hrow : wr.ownsRow (w.heap.size + 3) 35 7 (.slice A1 ls.length c1) ls.length css.flatten := HG0.out.row
      generalize hcf : css.flatten = cf at hrow
      have HCf := Lib.hid hcf
      clear hcf
      have hne : ∀ g, g < w.heap.size + 3 → some g ≠ (Value.slice A1 ls.length c1).ownBlock := fun g hg e => by have := (hrow.lt _ e.symm).1; omega
      go_wp2_with (go_at_call 62; refine HHas.out.mono ?_; rintro e w' ⟨rfl, rfl⟩)
      have hbW : Below wr.heap.size wr w4.drew := Below.drew hb4r
      have BX2 : Blk w4.drew (w.heap.size + 1 + 1) 26 #[.slice A1 ls.length c1] := BK2.drew
      have hcx := BX2.cell; have hfx := BX2.frozen
      have hrW : Reads w4.drew (w4.drew).heap.size An (t.Names.map strV) := (hnr.below (B' := wr.heap.size) hbW (by omega)).more (Nat.le_trans (by omega) hbW.size)
      have hro : World.ownsRow w4.drew (w.heap.size + 3) 35 7 (.slice A1 ls.length c1) ls.length cf := own_below hrow hbW
      have hzW : wr.heap.size ≤ (w4.drew).heap.size := hbW.size
      go_region_law (first | (refine step_append_lies _ (by rfl) _ _ _ (by rfl) (w.heap.size + 3) 35 i0 _ 7 72 Try.underlying24 hi0 hz0 hz1 hz2 rfl (by omega) (.slice A1 ls.length c1) ls.length cf (by rfl) ((own_below hro hb2).alloc _) ⟨w2.heap.size, 0, none⟩ 1 1 [.int .i64 t.Id, .int .i64 t.Parent, .slice D t.Names.length d, .int .i64 t.Made, .int .i64 t.Ends, .int .i64 t.Limit, .int .i64 t.Uses] (by rfl) (by rfl) (World.news_of_block (cs := #[.int .i64 t.Id, .int .i64 t.Parent, .slice D t.Names.length d, .int .i64 t.Made, .int .i64 t.Ends, .int .i64 t.Limit, .int .i64 t.Uses]) (t := 35) (fr := (0, 0)) (heap_alloc_new w2 _)) (by simp [Value.oneCell']) (by omega) (by simp only [maxLen]; omega) (by omega) (by simp; omega) (w2.heap.size + 1) (by simp) ?_; intro gg cap w3 hown1 hgrow hat hlt1; have BY := Blk.grown (BX3.alloc (.cells #[.int .i64 t.Id, .int .i64 t.Parent, .slice D t.Names.length d, .int .i64 t.Made, .int .i64 t.Ends, .int .i64 t.Limit, .int .i64 t.Uses] 35)) hgrow (hne _ (by omega)); have hcY := BY.cell; have hfY := BY.frozen) | (go_simp; go_at_call 50; refine (impl_cloneToken t An cn _ hrW (by omega)).mono ?_; rintro e w2 ⟨D, d, rfl, ho, hb2⟩; have hsz2 := hb2.size; have BX3 := BX2.keep hb2; have hc3 := BX3.cell; have hf3 := BX3.frozen; have BX4 := BX3.alloc (.cells #[.int .i64 t.Id, .int .i64 t.Parent, .slice D t.Names.length d, .int .i64 t.Made, .int .i64 t.Ends, .int .i64 t.Limit, .int .i64 t.Uses] 35); have hc4 := BX4.cell; have hf4 := BX4.frozen))
      all_goals
        go_wp2
        go_roundw
        case rel =>
          have hbA : Below wr.heap.size wr (w2.alloc (.cells #[.int .i64 t.Id, .int .i64 t.Parent, .slice D t.Names.length d, .int .i64 t.Made, .int .i64 t.Ends, .int .i64 t.Limit, .int .i64 t.Uses] 35)) := Below.alloc (hbW.trans (hb2.mono hzW)) (by omega) _
          have hoA := TokenR.own_keep (own_Token_row ho HNs.out) ((Below.refl _ w2).alloc (Nat.le_refl _) (.cells #[.int .i64 t.Id, .int .i64 t.Parent, .slice D t.Names.length d, .int .i64 t.Made, .int .i64 t.Ends, .int .i64 t.Limit, .int .i64 t.Uses] 35))
          have hG := Two.snoc HG0.out hbA hoA hzW (by simp) (by omega) (by rw [HCf.out]; exact hown1) hgrow (hat.imp_right (fun h => by simpa using h))
          have hz3 := hgrow.size
          have hrowlt : ∀ q, (Value.slice A1 ls.length c1).ownBlock = some q → w.heap.size + 3 ≤ q := fun q e => (hrow.lt q e).1
          have hbw : Below w.heap.size w (w2.alloc (.cells #[.int .i64 t.Id, .int .i64 t.Parent, .slice D t.Names.length d, .int .i64 t.Made, .int .i64 t.Ends, .int .i64 t.Limit, .int .i64 t.Uses] 35)) := hb.trans (hbA.mono (by omega))
          have hb2r : Below w4.heap.size w4 (w2.alloc (.cells #[.int .i64 t.Id, .int .i64 t.Parent, .slice D t.Names.length d, .int .i64 t.Made, .int .i64 t.Ends, .int .i64 t.Limit, .int .i64 t.Uses] 35)) := Below.alloc (Below.trans (Below.drew (Below.refl _ _)) hb2) (by have := hb2.size; simpa using this) _
          refine ⟨k + 1, some ⟨gg, 0, none⟩, cap, _, ls ++ [t], B1, d1, ys, by omega, by go_num, rfl, by simp; omega, by omega, ?_, ?_, ?_, ?_, ?_, Lib.hid (by rw [List.length_append]; exact hG.setC (a := ⟨w.heap.size + 1 + 1, 0, none⟩) (by simp) _), Lib.hid (by rw [wFold_snoc HT.out, HL.out, wStep_kept HW.out])⟩
          · exact (Below.grown hbw hgrow (by simp; omega) (fun q e => by have := hrowlt q e; omega)).setCell (by simp; try omega) _
          · simp at hz3 ⊢; omega
          · exact ((BK0.keep hb2r).grown hgrow (hne _ (by omega))).far (by simp; omega) _
          · exact ((BK1.keep hb2r).grown hgrow (hne _ (by omega))).far (by simp) _
          · have hB := BY.set_ 0 (.slice (some ⟨gg, 0, none⟩) (ls.length + 1) cap)
            rw [List.length_append]
            simpa using hB
        case measure => simp [intOf]; omega
    · obtain rfl : k = n := by omega
      have hc1 := BK1.cell; have hf1 := BK1.frozen
      have hll : Hid (wFold pr ts = (ls, ys)) := Lib.hid (by rw [← HL.out, List.take_of_length_le (by rw [Hn.out]; exact Nat.le_refl _)])
      go_wp2
      refine bodyPost_ret (v := .tuple #[.agg #[.slice A1 ls.length c1], .slice B1 ys.length d1]) (by simp [results, Try.results33, go_sem, hc1, hf1]) rfl ⟨A1, c1, css, B1, d1, by rw [hll.out], ?_, by (repeat (first | (with_reducible exact Below.refl _ _) | (with_reducible assumption) | ((with_reducible refine Below.setCell ?_ ?_ _); rotate_left; focus (first | omega | (simp; done) | (simp; omega))) | ((with_reducible refine Below.alloc ?_ ?_ _); rotate_left; focus (first | omega | (simp; done) | (simp; omega))) | (with_reducible refine Below.drew ?_) | (with_reducible refine below_drewN ?_ _) | (refine Below.trans ?_ (Below.mono (by with_reducible assumption) (by (first | omega | (simp; done) | (simp; omega)))))))⟩
      rw [hll.out]
      exact (HG0.out.setC (a := ⟨w.heap.size + 1, 0, none⟩) (by simp) _).base (by omega)
set_option maxRecDepth 20000 in
set_option maxHeartbeats 6400000 in
theorem impl_without_Revoke (p : Addr) (pr : Token → Bool) (A : Option Addr) (c : Nat) (ts : List Token) (w : World) (hr : SlRd TokenR w w.heap.size (.slice A ts.length c) ts) (hm : szList TokenR ts ≤ 1048576)
    (hK : ∀ (t : Token) (A : Option Addr) (c : Nat) (w' : World), Below w.heap.size w w' → Calls Try.prog 41 #[.agg #[.int .i64 t.Id, .int .i64 t.Parent, .slice A t.Names.length c, .int .i64 t.Made, .int .i64 t.Ends, .int .i64 t.Limit, .int .i64 t.Uses], .pointer (some p)] w' fun e w'' => e = .returned (.bool (pr t)) ∧ Below w'.heap.size w' w'') :
    Calls Try.prog 33 #[.agg #[.slice A ts.length c], .func (.func 41) #[] #[.pointer (some p)]] w fun e w' => ∃ A1 c1 css B1 d1, e = .returned (.tuple #[.agg #[.slice A1 (wFold pr ts).1.length c1], .slice B1 (wFold pr ts).2.length d1]) ∧ Two TokenR 35 w' w.heap.size A1 (wFold pr ts).1.length c1 css (wFold pr ts).1 B1 (wFold pr ts).2.length d1 (wFold pr ts).2 ∧ Below w.heap.size w w' := by
  obtain ⟨i0, hi0, hz0, hz1, hz2⟩ := info_parts info_Token
  obtain ⟨j0, hj0, hJ0, hJ1, hJ2⟩ := info_parts info_int
  have hml : ts.length ≤ 1048576 := Nat.le_trans (Nat.le_add_right _ _) hm
  have HNm := Lib.hid (fun k t (h : ts[k]? = some t) => names_small hm h)
  have HK := Lib.hid (fun (t : Token) (A : Option Addr) (c : Nat) (b : Bool) (hb' : pr t = b) (w' : World) (hb : Below w.heap.size w w') => (hb' ▸ hK t A c w' hb : Calls Try.prog 41 #[.agg #[.int .i64 t.Id, .int .i64 t.Parent, .slice A t.Names.length c, .int .i64 t.Made, .int .i64 t.Ends, .int .i64 t.Limit, .int .i64 t.Uses], .pointer (some p)] w' fun e w'' => e = .returned (.bool b) ∧ Below w'.heap.size w' w''))
  generalize hn : ts.length = n at *
  have Hn := Lib.hid hn
  clear hn hm hK
  go_enter Try.func33, Try.ntmps33
  go_wp2
  go_loopw [7, 13] (fun sl i wr => ∃ (k : Nat) (A1 : Option Addr) (c1 : Nat) (css : List (List Value)) (ls : List Token) (B1 : Option Addr) (d1 : Nat) (ys : List Int), k ≤ n ∧ i = .int .i64 k ∧ sl = .slice B1 ys.length d1 ∧ ls.length ≤ k ∧ ys.length ≤ k ∧ Below w.heap.size w wr ∧ w.heap.size + 3 ≤ wr.heap.size ∧ Blk wr w.heap.size 26 #[.slice A n c] ∧ Blk wr (w.heap.size + 1) 26 #[.slice none 0 0] ∧ Blk wr (w.heap.size + 1 + 1) 26 #[.slice A1 ls.length c1] ∧ Hid (Two TokenR 35 wr (w.heap.size + 3) A1 ls.length c1 css ls B1 ys.length d1 ys) ∧ Hid (wFold pr (ts.take k) = (ls, ys))) (fun _ i _ => n - (intOf i).toNat)
  case atStart => exact ⟨0, none, 0, [], [], none, 0, [], Nat.zero_le _, rfl, rfl, Nat.zero_le _, Nat.zero_le _, by (repeat (first | (with_reducible exact Below.refl _ _) | (with_reducible assumption) | ((with_reducible refine Below.setCell ?_ ?_ _); rotate_left; focus (first | omega | (simp; done) | (simp; omega))) | ((with_reducible refine Below.alloc ?_ ?_ _); rotate_left; focus (first | omega | (simp; done) | (simp; omega))) | (with_reducible refine Below.drew ?_) | (with_reducible refine below_drewN ?_ _) | (refine Below.trans ?_ (Below.mono (by with_reducible assumption) (by (first | omega | (simp; done) | (simp; omega))))))), by simp, by (repeat (first | (with_reducible assumption) | ((with_reducible refine Blk.new' ?_); focus (simp; done)) | (with_reducible refine Blk.alloc ?_ _) | (with_reducible refine Blk.drew ?_) | (with_reducible refine Blk.drewN ?_ _) | ((with_reducible refine Blk.far ?_ ?_ _); rotate_left; focus (first | omega | (simp; done) | (simp; omega))) | (refine Blk.keep ?_ (by with_reducible assumption)) | (refine Blk.below ?_ (by with_reducible assumption) (by (first | omega | (simp; done) | (simp; omega)))))), by (repeat (first | (with_reducible assumption) | ((with_reducible refine Blk.new' ?_); focus (simp; done)) | (with_reducible refine Blk.alloc ?_ _) | (with_reducible refine Blk.drew ?_) | (with_reducible refine Blk.drewN ?_ _) | ((with_reducible refine Blk.far ?_ ?_ _); rotate_left; focus (first | omega | (simp; done) | (simp; omega))) | (refine Blk.keep ?_ (by with_reducible assumption)) | (refine Blk.below ?_ (by with_reducible assumption) (by (first | omega | (simp; done) | (simp; omega)))))), (by (repeat (first | (with_reducible assumption) | ((with_reducible refine Blk.new' ?_); focus (simp; done)) | (with_reducible refine Blk.alloc ?_ _) | (with_reducible refine Blk.drew ?_) | (with_reducible refine Blk.drewN ?_ _) | ((with_reducible refine Blk.far ?_ ?_ _); rotate_left; focus (first | omega | (simp; done) | (simp; omega))) | (refine Blk.keep ?_ (by with_reducible assumption)) | (refine Blk.below ?_ (by with_reducible assumption) (by (first | omega | (simp; done) | (simp; omega)))))) : Blk _ _ 26 #[.slice none 0 0]), Lib.hid (Two.nil _ _ _ _), Lib.hid rfl⟩
  case round =>
    obtain ⟨k, A1, c1, css, ls, B1, d1, ys, hk, rfl, rfl, hls, hys, hb, hzr, BK0, BK1, BK2, HG0, HL⟩ := hrel
    have hc0 := BK0.cell; have hc2 := BK2.cell; have hf2 := BK2.frozen
    by_cases hlt : k < n
    · skip
      have hlx : k < ts.length := by rw [Hn.out]; exact hlt
      have HT := Lib.hid (List.getElem?_eq_getElem hlx)
      generalize ts[k]'hlx = t at HT
      clear hlx
      obtain ⟨b, off, An, cn, rfl, hab, hnm, hq0, hq1, hq2, hq3, hq4, hq5, hq6⟩ := tok_elem (hr.below hb (Nat.le_refl _)) HT.out
      obtain ⟨-, hnr, -, -, hns⟩ := rd_StringS hnm
      have HNs := Lib.hid hns
      have hnl := HNm.out k t HT.out
      clear hnm hns
      cases hx : pr t
      rotate_left
      · have HX := Lib.hid hx
        have HW : Hid ((pr t || hasB ys t.Parent) = true) := Lib.hid (by rw [hx]; rfl)
        clear hx
        go_wp2_with fail
        refine (HK.out t An cn _ HX.out _ (by (repeat (first | (with_reducible exact Below.refl _ _) | (with_reducible assumption) | ((with_reducible refine Below.setCell ?_ ?_ _); rotate_left; focus (first | omega | (simp; done) | (simp; omega))) | ((with_reducible refine Below.alloc ?_ ?_ _); rotate_left; focus (first | omega | (simp; done) | (simp; omega))) | (with_reducible refine Below.drew ?_) | (with_reducible refine below_drewN ?_ _) | (refine Below.trans ?_ (Below.mono (by with_reducible assumption) (by (first | omega | (simp; done) | (simp; omega))))))))).mono ?_
        rintro e w4 ⟨rfl, hb4⟩
        have hz4 := hb4.size; try simp at hz4
        have BT : Blk w4 wr.heap.size 35 #[.int .i64 t.Id, .int .i64 t.Parent, .slice An t.Names.length cn, .int .i64 t.Made, .int .i64 t.Ends, .int .i64 t.Limit, .int .i64 t.Uses] := by (repeat (first | (with_reducible assumption) | ((with_reducible refine Blk.new' ?_); focus (simp; done)) | (with_reducible refine Blk.alloc ?_ _) | (with_reducible refine Blk.drew ?_) | (with_reducible refine Blk.drewN ?_ _) | ((with_reducible refine Blk.far ?_ ?_ _); rotate_left; focus (first | omega | (simp; done) | (simp; omega))) | (refine Blk.keep ?_ (by with_reducible assumption)) | (refine Blk.below ?_ (by with_reducible assumption) (by (first | omega | (simp; done) | (simp; omega))))))
        have hct := BT.cell; have hft := BT.frozen; have hlt4 := BT.lt
        have hb4r : Below wr.heap.size wr w4 := by (repeat (first | (with_reducible exact Below.refl _ _) | (with_reducible assumption) | ((with_reducible refine Below.setCell ?_ ?_ _); rotate_left; focus (first | omega | (simp; done) | (simp; omega))) | ((with_reducible refine Below.alloc ?_ ?_ _); rotate_left; focus (first | omega | (simp; done) | (simp; omega))) | (with_reducible refine Below.drew ?_) | (with_reducible refine below_drewN ?_ _) | (refine Below.trans ?_ (Below.mono (by with_reducible assumption) (by (first | omega | (simp; done) | (simp; omega)))))))
        replace BK0 := BK0.keep hb4r; replace BK1 := BK1.keep hb4r; replace BK2 := BK2.keep hb4r
        replace hc0 := BK0.cell; replace hc2 := BK2.cell; replace hf2 := BK2.frozen
        have hir : wr.ownsRow (w.heap.size + 3) 3 1 (.slice B1 ys.length d1) ys.length (ys.map intV) := HG0.out.irow
        have hirw := own_below hir hb4r
        have hirlt : ∀ q, (Value.slice B1 ys.length d1).ownBlock = some q → w.heap.size + 3 ≤ q ∧ q < wr.heap.size := fun q e => hir.lt q e
        go_wp2_with (first | (at_builtin; go_loud (refine wpList_append_own_at _ rfl _ _ 30 rfl (w.heap.size + 3) 3 j0 (.int .i64 0) 1 8 Try.underlying30 hj0 hJ0 hJ1 hJ2 rfl (by decide) _ _ _ rfl (hirw.alloc _) ⟨w4.heap.size, 0, none⟩ 1 1 [.int .i64 t.Id] rfl rfl ?c1 ?c2 ?c3 ?c4 ?c5 ?_; (case c1 => exact cell_one_new _ _ _); (case c2 => simp [Value.oneCell']); (case c3 => (simp only [maxLen]; omega)); (case c4 => omega); (case c5 => (simp; omega)); intro v' wA hown1 hgrow hnil hat; obtain ⟨gg, cap, rfl, hg1, hg2⟩ := hown1.form (by omega))))
        go_roundw
        case rel =>
          have hbA : Below wr.heap.size wr (w4.alloc (.cells #[.int .i64 t.Id] 3)) := Below.alloc hb4r (by omega) _
          have hG := HG0.out.snocI hbA t.Id hown1 hgrow (hat.elim (fun h => .inl h.symm) (fun h => .inr (by simpa [Value.ownBlock] using h)))
          have hzA := hgrow.size
          simp at hzA
          have hneA : ∀ q, q < w.heap.size + 3 → some q ≠ (Value.slice B1 ys.length d1).ownBlock := fun q hq e => by have := hirlt q e.symm; omega
          refine ⟨k + 1, A1, c1, css, ls, some ⟨gg, 0, none⟩, cap, ys ++ [t.Id], by omega, by go_num, by rw [List.length_append]; rfl, by omega, by simp; omega, ?_, by omega, ?_, ?_, ?_, Lib.hid (by rw [List.length_append]; exact hG), Lib.hid (by rw [wFold_snoc HT.out, HL.out, wStep_gone HW.out])⟩
          · exact Below.grown (hb.trans (hbA.mono (by omega))) hgrow (by simp; omega) (fun q e => by have := hirlt q e; omega)
          · exact (BK0.alloc _).grown hgrow (hneA _ (by omega))
          · exact (BK1.alloc _).grown hgrow (hneA _ (by omega))
          · exact (BK2.alloc _).grown hgrow (hneA _ (by omega))
        case measure => simp [intOf]; omega
      have HX := Lib.hid hx
      have HHas := Lib.hid (fun (w' : World) (h : Reads w' w'.heap.size B1 (ys.map intV)) => slices_Contains_int B1 d1 ys t.Parent w' h (by omega))
      go_wp2_with fail
      refine (HK.out t An cn _ HX.out _ (by (repeat (first | (with_reducible exact Below.refl _ _) | (with_reducible assumption) | ((with_reducible refine Below.setCell ?_ ?_ _); rotate_left; focus (first | omega | (simp; done) | (simp; omega))) | ((with_reducible refine Below.alloc ?_ ?_ _); rotate_left; focus (first | omega | (simp; done) | (simp; omega))) | (with_reducible refine Below.drew ?_) | (with_reducible refine below_drewN ?_ _) | (refine Below.trans ?_ (Below.mono (by with_reducible assumption) (by (first | omega | (simp; done) | (simp; omega))))))))).mono ?_
      rintro e w4 ⟨rfl, hb4⟩
      have hz4 := hb4.size; try simp at hz4
      have BT : Blk w4 wr.heap.size 35 #[.int .i64 t.Id, .int .i64 t.Parent, .slice An t.Names.length cn, .int .i64 t.Made, .int .i64 t.Ends, .int .i64 t.Limit, .int .i64 t.Uses] := by (repeat (first | (with_reducible assumption) | ((with_reducible refine Blk.new' ?_); focus (simp; done)) | (with_reducible refine Blk.alloc ?_ _) | (with_reducible refine Blk.drew ?_) | (with_reducible refine Blk.drewN ?_ _) | ((with_reducible refine Blk.far ?_ ?_ _); rotate_left; focus (first | omega | (simp; done) | (simp; omega))) | (refine Blk.keep ?_ (by with_reducible assumption)) | (refine Blk.below ?_ (by with_reducible assumption) (by (first | omega | (simp; done) | (simp; omega))))))
      have hct := BT.cell; have hft := BT.frozen; have hlt4 := BT.lt
      have hb4r : Below wr.heap.size wr w4 := by (repeat (first | (with_reducible exact Below.refl _ _) | (with_reducible assumption) | ((with_reducible refine Below.setCell ?_ ?_ _); rotate_left; focus (first | omega | (simp; done) | (simp; omega))) | ((with_reducible refine Below.alloc ?_ ?_ _); rotate_left; focus (first | omega | (simp; done) | (simp; omega))) | (with_reducible refine Below.drew ?_) | (with_reducible refine below_drewN ?_ _) | (refine Below.trans ?_ (Below.mono (by with_reducible assumption) (by (first | omega | (simp; done) | (simp; omega)))))))
      replace BK0 := BK0.keep hb4r; replace BK1 := BK1.keep hb4r; replace BK2 := BK2.keep hb4r
      replace hc0 := BK0.cell; replace hc2 := BK2.cell; replace hf2 := BK2.frozen
      have HRd : Hid (Reads w4 w4.heap.size B1 (ys.map intV)) := Lib.hid (Reads.of_own (own_below HG0.out.irow hb4r))
      replace HHas := Lib.hid (HHas.out w4 HRd.out)
      clear HRd
      cases hh : hasB ys t.Parent
      rotate_left
      · have HW : Hid ((pr t || hasB ys t.Parent) = true) := Lib.hid (by rw [hx, hh]; rfl)
        rw [hh] at HHas
        clear hx hh
        have hir : wr.ownsRow (w.heap.size + 3) 3 1 (.slice B1 ys.length d1) ys.length (ys.map intV) := HG0.out.irow
        have hirw := own_below hir hb4r
        have hirlt : ∀ q, (Value.slice B1 ys.length d1).ownBlock = some q → w.heap.size + 3 ≤ q ∧ q < wr.heap.size := fun q e => hir.lt q e
        go_wp2_with (first | (go_at_call 62; refine HHas.out.mono ?_; rintro e w' ⟨rfl, rfl⟩) | (at_builtin; go_loud (refine wpList_append_own_at _ rfl _ _ 30 rfl (w.heap.size + 3) 3 j0 (.int .i64 0) 1 8 Try.underlying30 hj0 hJ0 hJ1 hJ2 rfl (by decide) _ _ _ rfl (hirw.alloc _) ⟨w4.heap.size, 0, none⟩ 1 1 [.int .i64 t.Id] rfl rfl ?c1 ?c2 ?c3 ?c4 ?c5 ?_; (case c1 => exact cell_one_new _ _ _); (case c2 => simp [Value.oneCell']); (case c3 => (simp only [maxLen]; omega)); (case c4 => omega); (case c5 => (simp; omega)); intro v' wA hown1 hgrow hnil hat; obtain ⟨gg, cap, rfl, hg1, hg2⟩ := hown1.form (by omega))))
        go_roundw
        case rel =>
          have hbA : Below wr.heap.size wr (w4.alloc (.cells #[.int .i64 t.Id] 3)) := Below.alloc hb4r (by omega) _
          have hG := HG0.out.snocI hbA t.Id hown1 hgrow (hat.elim (fun h => .inl h.symm) (fun h => .inr (by simpa [Value.ownBlock] using h)))
          have hzA := hgrow.size
          simp at hzA
          have hneA : ∀ q, q < w.heap.size + 3 → some q ≠ (Value.slice B1 ys.length d1).ownBlock := fun q hq e => by have := hirlt q e.symm; omega
          refine ⟨k + 1, A1, c1, css, ls, some ⟨gg, 0, none⟩, cap, ys ++ [t.Id], by omega, by go_num, by rw [List.length_append]; rfl, by omega, by simp; omega, ?_, by omega, ?_, ?_, ?_, Lib.hid (by rw [List.length_append]; exact hG), Lib.hid (by rw [wFold_snoc HT.out, HL.out, wStep_gone HW.out])⟩
          · exact Below.grown (hb.trans (hbA.mono (by omega))) hgrow (by simp; omega) (fun q e => by have := hirlt q e; omega)
          · exact (BK0.alloc _).grown hgrow (hneA _ (by omega))
          · exact (BK1.alloc _).grown hgrow (hneA _ (by omega))
          · exact (BK2.alloc _).grown hgrow (hneA _ (by omega))
        case measure => simp [intOf]; omega
      have HW : Hid ((pr t || hasB ys t.Parent) = false) := Lib.hid (by rw [hx, hh]; rfl)
      rw [hh] at HHas
      clear hx hh
      have hrow : wr.ownsRow (w.heap.size + 3) 35 7 (.slice A1 ls.length c1) ls.length css.flatten := HG0.out.row
      generalize hcf : css.flatten = cf at hrow
      have HCf := Lib.hid hcf
      clear hcf
      have hne : ∀ g, g < w.heap.size + 3 → some g ≠ (Value.slice A1 ls.length c1).ownBlock := fun g hg e => by have := (hrow.lt _ e.symm).1; omega
      go_wp2_with (go_at_call 62; refine HHas.out.mono ?_; rintro e w' ⟨rfl, rfl⟩)
      have hbW : Below wr.heap.size wr w4.drew := Below.drew hb4r
      have BX2 : Blk w4.drew (w.heap.size + 1 + 1) 26 #[.slice A1 ls.length c1] := BK2.drew
      have hcx := BX2.cell; have hfx := BX2.frozen
      have hrW : Reads w4.drew (w4.drew).heap.size An (t.Names.map strV) := (hnr.below (B' := wr.heap.size) hbW (by omega)).more (Nat.le_trans (by omega) hbW.size)
      have hro : World.ownsRow w4.drew (w.heap.size + 3) 35 7 (.slice A1 ls.length c1) ls.length cf := own_below hrow hbW
      have hzW : wr.heap.size ≤ (w4.drew).heap.size := hbW.size
      go_region_law (first | (refine step_append_lies _ (by rfl) _ _ _ (by rfl) (w.heap.size + 3) 35 i0 _ 7 72 Try.underlying24 hi0 hz0 hz1 hz2 rfl (by omega) (.slice A1 ls.length c1) ls.length cf (by rfl) ((own_below hro hb2).alloc _) ⟨w2.heap.size, 0, none⟩ 1 1 [.int .i64 t.Id, .int .i64 t.Parent, .slice D t.Names.length d, .int .i64 t.Made, .int .i64 t.Ends, .int .i64 t.Limit, .int .i64 t.Uses] (by rfl) (by rfl) (World.news_of_block (cs := #[.int .i64 t.Id, .int .i64 t.Parent, .slice D t.Names.length d, .int .i64 t.Made, .int .i64 t.Ends, .int .i64 t.Limit, .int .i64 t.Uses]) (t := 35) (fr := (0, 0)) (heap_alloc_new w2 _)) (by simp [Value.oneCell']) (by omega) (by simp only [maxLen]; omega) (by omega) (by simp; omega) (w2.heap.size + 1) (by simp) ?_; intro gg cap w3 hown1 hgrow hat hlt1; have BY := Blk.grown (BX3.alloc (.cells #[.int .i64 t.Id, .int .i64 t.Parent, .slice D t.Names.length d, .int .i64 t.Made, .int .i64 t.Ends, .int .i64 t.Limit, .int .i64 t.Uses] 35)) hgrow (hne _ (by omega)); have hcY := BY.cell; have hfY := BY.frozen) | (go_simp; go_at_call 50; refine (impl_cloneToken t An cn _ hrW (by omega)).mono ?_; rintro e w2 ⟨D, d, rfl, ho, hb2⟩; have hsz2 := hb2.size; have BX3 := BX2.keep hb2; have hc3 := BX3.cell; have hf3 := BX3.frozen; have BX4 := BX3.alloc (.cells #[.int .i64 t.Id, .int .i64 t.Parent, .slice D t.Names.length d, .int .i64 t.Made, .int .i64 t.Ends, .int .i64 t.Limit, .int .i64 t.Uses] 35); have hc4 := BX4.cell; have hf4 := BX4.frozen))
      all_goals
        go_wp2
        go_roundw
        case rel =>
          have hbA : Below wr.heap.size wr (w2.alloc (.cells #[.int .i64 t.Id, .int .i64 t.Parent, .slice D t.Names.length d, .int .i64 t.Made, .int .i64 t.Ends, .int .i64 t.Limit, .int .i64 t.Uses] 35)) := Below.alloc (hbW.trans (hb2.mono hzW)) (by omega) _
          have hoA := TokenR.own_keep (own_Token_row ho HNs.out) ((Below.refl _ w2).alloc (Nat.le_refl _) (.cells #[.int .i64 t.Id, .int .i64 t.Parent, .slice D t.Names.length d, .int .i64 t.Made, .int .i64 t.Ends, .int .i64 t.Limit, .int .i64 t.Uses] 35))
          have hG := Two.snoc HG0.out hbA hoA hzW (by simp) (by omega) (by rw [HCf.out]; exact hown1) hgrow (hat.imp_right (fun h => by simpa using h))
          have hz3 := hgrow.size
          have hrowlt : ∀ q, (Value.slice A1 ls.length c1).ownBlock = some q → w.heap.size + 3 ≤ q := fun q e => (hrow.lt q e).1
          have hbw : Below w.heap.size w (w2.alloc (.cells #[.int .i64 t.Id, .int .i64 t.Parent, .slice D t.Names.length d, .int .i64 t.Made, .int .i64 t.Ends, .int .i64 t.Limit, .int .i64 t.Uses] 35)) := hb.trans (hbA.mono (by omega))
          have hb2r : Below w4.heap.size w4 (w2.alloc (.cells #[.int .i64 t.Id, .int .i64 t.Parent, .slice D t.Names.length d, .int .i64 t.Made, .int .i64 t.Ends, .int .i64 t.Limit, .int .i64 t.Uses] 35)) := Below.alloc (Below.trans (Below.drew (Below.refl _ _)) hb2) (by have := hb2.size; simpa using this) _
          refine ⟨k + 1, some ⟨gg, 0, none⟩, cap, _, ls ++ [t], B1, d1, ys, by omega, by go_num, rfl, by simp; omega, by omega, ?_, ?_, ?_, ?_, ?_, Lib.hid (by rw [List.length_append]; exact hG.setC (a := ⟨w.heap.size + 1 + 1, 0, none⟩) (by simp) _), Lib.hid (by rw [wFold_snoc HT.out, HL.out, wStep_kept HW.out])⟩
          · exact (Below.grown hbw hgrow (by simp; omega) (fun q e => by have := hrowlt q e; omega)).setCell (by simp; try omega) _
          · simp at hz3 ⊢; omega
          · exact ((BK0.keep hb2r).grown hgrow (hne _ (by omega))).far (by simp; omega) _
          · exact ((BK1.keep hb2r).grown hgrow (hne _ (by omega))).far (by simp) _
          · have hB := BY.set_ 0 (.slice (some ⟨gg, 0, none⟩) (ls.length + 1) cap)
            rw [List.length_append]
            simpa using hB
        case measure => simp [intOf]; omega
    · obtain rfl : k = n := by omega
      have hc1 := BK1.cell; have hf1 := BK1.frozen
      have hll : Hid (wFold pr ts = (ls, ys)) := Lib.hid (by rw [← HL.out, List.take_of_length_le (by rw [Hn.out]; exact Nat.le_refl _)])
      go_wp2
      refine bodyPost_ret (v := .tuple #[.agg #[.slice A1 ls.length c1], .slice B1 ys.length d1]) (by simp [results, Try.results33, go_sem, hc1, hf1]) rfl ⟨A1, c1, css, B1, d1, by rw [hll.out], ?_, by (repeat (first | (with_reducible exact Below.refl _ _) | (with_reducible assumption) | ((with_reducible refine Below.setCell ?_ ?_ _); rotate_left; focus (first | omega | (simp; done) | (simp; omega))) | ((with_reducible refine Below.alloc ?_ ?_ _); rotate_left; focus (first | omega | (simp; done) | (simp; omega))) | (with_reducible refine Below.drew ?_) | (with_reducible refine below_drewN ?_ _) | (refine Below.trans ?_ (Below.mono (by with_reducible assumption) (by (first | omega | (simp; done) | (simp; omega)))))))⟩
      rw [hll.out]
      exact (HG0.out.setC (a := ⟨w.heap.size + 1, 0, none⟩) (by simp) _).base (by omega)
set_option maxRecDepth 20000 in
set_option maxHeartbeats 6400000 in
theorem impl_without_Sweep (p : Addr) (pr : Token → Bool) (A : Option Addr) (c : Nat) (ts : List Token) (w : World) (hr : SlRd TokenR w w.heap.size (.slice A ts.length c) ts) (hm : szList TokenR ts ≤ 1048576)
    (hK : ∀ (t : Token) (A : Option Addr) (c : Nat) (w' : World), Below w.heap.size w w' → Calls Try.prog 34 #[.agg #[.int .i64 t.Id, .int .i64 t.Parent, .slice A t.Names.length c, .int .i64 t.Made, .int .i64 t.Ends, .int .i64 t.Limit, .int .i64 t.Uses], .pointer (some p)] w' fun e w'' => e = .returned (.bool (pr t)) ∧ Below w'.heap.size w' w'') :
    Calls Try.prog 33 #[.agg #[.slice A ts.length c], .func (.func 34) #[] #[.pointer (some p)]] w fun e w' => ∃ A1 c1 css B1 d1, e = .returned (.tuple #[.agg #[.slice A1 (wFold pr ts).1.length c1], .slice B1 (wFold pr ts).2.length d1]) ∧ Two TokenR 35 w' w.heap.size A1 (wFold pr ts).1.length c1 css (wFold pr ts).1 B1 (wFold pr ts).2.length d1 (wFold pr ts).2 ∧ Below w.heap.size w w' := by
  obtain ⟨i0, hi0, hz0, hz1, hz2⟩ := info_parts info_Token
  obtain ⟨j0, hj0, hJ0, hJ1, hJ2⟩ := info_parts info_int
  have hml : ts.length ≤ 1048576 := Nat.le_trans (Nat.le_add_right _ _) hm
  have HNm := Lib.hid (fun k t (h : ts[k]? = some t) => names_small hm h)
  have HK := Lib.hid (fun (t : Token) (A : Option Addr) (c : Nat) (b : Bool) (hb' : pr t = b) (w' : World) (hb : Below w.heap.size w w') => (hb' ▸ hK t A c w' hb : Calls Try.prog 34 #[.agg #[.int .i64 t.Id, .int .i64 t.Parent, .slice A t.Names.length c, .int .i64 t.Made, .int .i64 t.Ends, .int .i64 t.Limit, .int .i64 t.Uses], .pointer (some p)] w' fun e w'' => e = .returned (.bool b) ∧ Below w'.heap.size w' w''))
  generalize hn : ts.length = n at *
  have Hn := Lib.hid hn
  clear hn hm hK
  go_enter Try.func33, Try.ntmps33
  go_wp2
  go_loopw [7, 13] (fun sl i wr => ∃ (k : Nat) (A1 : Option Addr) (c1 : Nat) (css : List (List Value)) (ls : List Token) (B1 : Option Addr) (d1 : Nat) (ys : List Int), k ≤ n ∧ i = .int .i64 k ∧ sl = .slice B1 ys.length d1 ∧ ls.length ≤ k ∧ ys.length ≤ k ∧ Below w.heap.size w wr ∧ w.heap.size + 3 ≤ wr.heap.size ∧ Blk wr w.heap.size 26 #[.slice A n c] ∧ Blk wr (w.heap.size + 1) 26 #[.slice none 0 0] ∧ Blk wr (w.heap.size + 1 + 1) 26 #[.slice A1 ls.length c1] ∧ Hid (Two TokenR 35 wr (w.heap.size + 3) A1 ls.length c1 css ls B1 ys.length d1 ys) ∧ Hid (wFold pr (ts.take k) = (ls, ys))) (fun _ i _ => n - (intOf i).toNat)
  case atStart => exact ⟨0, none, 0, [], [], none, 0, [], Nat.zero_le _, rfl, rfl, Nat.zero_le _, Nat.zero_le _, by (repeat (first | (with_reducible exact Below.refl _ _) | (with_reducible assumption) | ((with_reducible refine Below.setCell ?_ ?_ _); rotate_left; focus (first | omega | (simp; done) | (simp; omega))) | ((with_reducible refine Below.alloc ?_ ?_ _); rotate_left; focus (first | omega | (simp; done) | (simp; omega))) | (with_reducible refine Below.drew ?_) | (with_reducible refine below_drewN ?_ _) | (refine Below.trans ?_ (Below.mono (by with_reducible assumption) (by (first | omega | (simp; done) | (simp; omega))))))), by simp, by (repeat (first | (with_reducible assumption) | ((with_reducible refine Blk.new' ?_); focus (simp; done)) | (with_reducible refine Blk.alloc ?_ _) | (with_reducible refine Blk.drew ?_) | (with_reducible refine Blk.drewN ?_ _) | ((with_reducible refine Blk.far ?_ ?_ _); rotate_left; focus (first | omega | (simp; done) | (simp; omega))) | (refine Blk.keep ?_ (by with_reducible assumption)) | (refine Blk.below ?_ (by with_reducible assumption) (by (first | omega | (simp; done) | (simp; omega)))))), by (repeat (first | (with_reducible assumption) | ((with_reducible refine Blk.new' ?_); focus (simp; done)) | (with_reducible refine Blk.alloc ?_ _) | (with_reducible refine Blk.drew ?_) | (with_reducible refine Blk.drewN ?_ _) | ((with_reducible refine Blk.far ?_ ?_ _); rotate_left; focus (first | omega | (simp; done) | (simp; omega))) | (refine Blk.keep ?_ (by with_reducible assumption)) | (refine Blk.below ?_ (by with_reducible assumption) (by (first | omega | (simp; done) | (simp; omega)))))), (by (repeat (first | (with_reducible assumption) | ((with_reducible refine Blk.new' ?_); focus (simp; done)) | (with_reducible refine Blk.alloc ?_ _) | (with_reducible refine Blk.drew ?_) | (with_reducible refine Blk.drewN ?_ _) | ((with_reducible refine Blk.far ?_ ?_ _); rotate_left; focus (first | omega | (simp; done) | (simp; omega))) | (refine Blk.keep ?_ (by with_reducible assumption)) | (refine Blk.below ?_ (by with_reducible assumption) (by (first | omega | (simp; done) | (simp; omega)))))) : Blk _ _ 26 #[.slice none 0 0]), Lib.hid (Two.nil _ _ _ _), Lib.hid rfl⟩
  case round =>
    obtain ⟨k, A1, c1, css, ls, B1, d1, ys, hk, rfl, rfl, hls, hys, hb, hzr, BK0, BK1, BK2, HG0, HL⟩ := hrel
    have hc0 := BK0.cell; have hc2 := BK2.cell; have hf2 := BK2.frozen
    by_cases hlt : k < n
    · skip
      have hlx : k < ts.length := by rw [Hn.out]; exact hlt
      have HT := Lib.hid (List.getElem?_eq_getElem hlx)
      generalize ts[k]'hlx = t at HT
      clear hlx
      obtain ⟨b, off, An, cn, rfl, hab, hnm, hq0, hq1, hq2, hq3, hq4, hq5, hq6⟩ := tok_elem (hr.below hb (Nat.le_refl _)) HT.out
      obtain ⟨-, hnr, -, -, hns⟩ := rd_StringS hnm
      have HNs := Lib.hid hns
      have hnl := HNm.out k t HT.out
      clear hnm hns
      cases hx : pr t
      rotate_left
      · have HX := Lib.hid hx
        have HW : Hid ((pr t || hasB ys t.Parent) = true) := Lib.hid (by rw [hx]; rfl)
        clear hx
        go_wp2_with fail
        refine (HK.out t An cn _ HX.out _ (by (repeat (first | (with_reducible exact Below.refl _ _) | (with_reducible assumption) | ((with_reducible refine Below.setCell ?_ ?_ _); rotate_left; focus (first | omega | (simp; done) | (simp; omega))) | ((with_reducible refine Below.alloc ?_ ?_ _); rotate_left; focus (first | omega | (simp; done) | (simp; omega))) | (with_reducible refine Below.drew ?_) | (with_reducible refine below_drewN ?_ _) | (refine Below.trans ?_ (Below.mono (by with_reducible assumption) (by (first | omega | (simp; done) | (simp; omega))))))))).mono ?_
        rintro e w4 ⟨rfl, hb4⟩
        have hz4 := hb4.size; try simp at hz4
        have BT : Blk w4 wr.heap.size 35 #[.int .i64 t.Id, .int .i64 t.Parent, .slice An t.Names.length cn, .int .i64 t.Made, .int .i64 t.Ends, .int .i64 t.Limit, .int .i64 t.Uses] := by (repeat (first | (with_reducible assumption) | ((with_reducible refine Blk.new' ?_); focus (simp; done)) | (with_reducible refine Blk.alloc ?_ _) | (with_reducible refine Blk.drew ?_) | (with_reducible refine Blk.drewN ?_ _) | ((with_reducible refine Blk.far ?_ ?_ _); rotate_left; focus (first | omega | (simp; done) | (simp; omega))) | (refine Blk.keep ?_ (by with_reducible assumption)) | (refine Blk.below ?_ (by with_reducible assumption) (by (first | omega | (simp; done) | (simp; omega))))))
        have hct := BT.cell; have hft := BT.frozen; have hlt4 := BT.lt
        have hb4r : Below wr.heap.size wr w4 := by (repeat (first | (with_reducible exact Below.refl _ _) | (with_reducible assumption) | ((with_reducible refine Below.setCell ?_ ?_ _); rotate_left; focus (first | omega | (simp; done) | (simp; omega))) | ((with_reducible refine Below.alloc ?_ ?_ _); rotate_left; focus (first | omega | (simp; done) | (simp; omega))) | (with_reducible refine Below.drew ?_) | (with_reducible refine below_drewN ?_ _) | (refine Below.trans ?_ (Below.mono (by with_reducible assumption) (by (first | omega | (simp; done) | (simp; omega)))))))
        replace BK0 := BK0.keep hb4r; replace BK1 := BK1.keep hb4r; replace BK2 := BK2.keep hb4r
        replace hc0 := BK0.cell; replace hc2 := BK2.cell; replace hf2 := BK2.frozen
        have hir : wr.ownsRow (w.heap.size + 3) 3 1 (.slice B1 ys.length d1) ys.length (ys.map intV) := HG0.out.irow
        have hirw := own_below hir hb4r
        have hirlt : ∀ q, (Value.slice B1 ys.length d1).ownBlock = some q → w.heap.size + 3 ≤ q ∧ q < wr.heap.size := fun q e => hir.lt q e
        go_wp2_with (first | (at_builtin; go_loud (refine wpList_append_own_at _ rfl _ _ 30 rfl (w.heap.size + 3) 3 j0 (.int .i64 0) 1 8 Try.underlying30 hj0 hJ0 hJ1 hJ2 rfl (by decide) _ _ _ rfl (hirw.alloc _) ⟨w4.heap.size, 0, none⟩ 1 1 [.int .i64 t.Id] rfl rfl ?c1 ?c2 ?c3 ?c4 ?c5 ?_; (case c1 => exact cell_one_new _ _ _); (case c2 => simp [Value.oneCell']); (case c3 => (simp only [maxLen]; omega)); (case c4 => omega); (case c5 => (simp; omega)); intro v' wA hown1 hgrow hnil hat; obtain ⟨gg, cap, rfl, hg1, hg2⟩ := hown1.form (by omega))))
        go_roundw
        case rel =>
          have hbA : Below wr.heap.size wr (w4.alloc (.cells #[.int .i64 t.Id] 3)) := Below.alloc hb4r (by omega) _
          have hG := HG0.out.snocI hbA t.Id hown1 hgrow (hat.elim (fun h => .inl h.symm) (fun h => .inr (by simpa [Value.ownBlock] using h)))
          have hzA := hgrow.size
          simp at hzA
          have hneA : ∀ q, q < w.heap.size + 3 → some q ≠ (Value.slice B1 ys.length d1).ownBlock := fun q hq e => by have := hirlt q e.symm; omega
          refine ⟨k + 1, A1, c1, css, ls, some ⟨gg, 0, none⟩, cap, ys ++ [t.Id], by omega, by go_num, by rw [List.length_append]; rfl, by omega, by simp; omega, ?_, by omega, ?_, ?_, ?_, Lib.hid (by rw [List.length_append]; exact hG), Lib.hid (by rw [wFold_snoc HT.out, HL.out, wStep_gone HW.out])⟩
          · exact Below.grown (hb.trans (hbA.mono (by omega))) hgrow (by simp; omega) (fun q e => by have := hirlt q e; omega)
          · exact (BK0.alloc _).grown hgrow (hneA _ (by omega))
          · exact (BK1.alloc _).grown hgrow (hneA _ (by omega))
          · exact (BK2.alloc _).grown hgrow (hneA _ (by omega))
        case measure => simp [intOf]; omega
      have HX := Lib.hid hx
      have HHas := Lib.hid (fun (w' : World) (h : Reads w' w'.heap.size B1 (ys.map intV)) => slices_Contains_int B1 d1 ys t.Parent w' h (by omega))
      go_wp2_with fail
      refine (HK.out t An cn _ HX.out _ (by (repeat (first | (with_reducible exact Below.refl _ _) | (with_reducible assumption) | ((with_reducible refine Below.setCell ?_ ?_ _); rotate_left; focus (first | omega | (simp; done) | (simp; omega))) | ((with_reducible refine Below.alloc ?_ ?_ _); rotate_left; focus (first | omega | (simp; done) | (simp; omega))) | (with_reducible refine Below.drew ?_) | (with_reducible refine below_drewN ?_ _) | (refine Below.trans ?_ (Below.mono (by with_reducible assumption) (by (first | omega | (simp; done) | (simp; omega))))))))).mono ?_
      rintro e w4 ⟨rfl, hb4⟩
      have hz4 := hb4.size; try simp at hz4
      have BT : Blk w4 wr.heap.size 35 #[.int .i64 t.Id, .int .i64 t.Parent, .slice An t.Names.length cn, .int .i64 t.Made, .int .i64 t.Ends, .int .i64 t.Limit, .int .i64 t.Uses] := by (repeat (first | (with_reducible assumption) | ((with_reducible refine Blk.new' ?_); focus (simp; done)) | (with_reducible refine Blk.alloc ?_ _) | (with_reducible refine Blk.drew ?_) | (with_reducible refine Blk.drewN ?_ _) | ((with_reducible refine Blk.far ?_ ?_ _); rotate_left; focus (first | omega | (simp; done) | (simp; omega))) | (refine Blk.keep ?_ (by with_reducible assumption)) | (refine Blk.below ?_ (by with_reducible assumption) (by (first | omega | (simp; done) | (simp; omega))))))
      have hct := BT.cell; have hft := BT.frozen; have hlt4 := BT.lt
      have hb4r : Below wr.heap.size wr w4 := by (repeat (first | (with_reducible exact Below.refl _ _) | (with_reducible assumption) | ((with_reducible refine Below.setCell ?_ ?_ _); rotate_left; focus (first | omega | (simp; done) | (simp; omega))) | ((with_reducible refine Below.alloc ?_ ?_ _); rotate_left; focus (first | omega | (simp; done) | (simp; omega))) | (with_reducible refine Below.drew ?_) | (with_reducible refine below_drewN ?_ _) | (refine Below.trans ?_ (Below.mono (by with_reducible assumption) (by (first | omega | (simp; done) | (simp; omega)))))))
      replace BK0 := BK0.keep hb4r; replace BK1 := BK1.keep hb4r; replace BK2 := BK2.keep hb4r
      replace hc0 := BK0.cell; replace hc2 := BK2.cell; replace hf2 := BK2.frozen
      have HRd : Hid (Reads w4 w4.heap.size B1 (ys.map intV)) := Lib.hid (Reads.of_own (own_below HG0.out.irow hb4r))
      replace HHas := Lib.hid (HHas.out w4 HRd.out)
      clear HRd
      cases hh : hasB ys t.Parent
      rotate_left
      · have HW : Hid ((pr t || hasB ys t.Parent) = true) := Lib.hid (by rw [hx, hh]; rfl)
        rw [hh] at HHas
        clear hx hh
        have hir : wr.ownsRow (w.heap.size + 3) 3 1 (.slice B1 ys.length d1) ys.length (ys.map intV) := HG0.out.irow
        have hirw := own_below hir hb4r
        have hirlt : ∀ q, (Value.slice B1 ys.length d1).ownBlock = some q → w.heap.size + 3 ≤ q ∧ q < wr.heap.size := fun q e => hir.lt q e
        go_wp2_with (first | (go_at_call 62; refine HHas.out.mono ?_; rintro e w' ⟨rfl, rfl⟩) | (at_builtin; go_loud (refine wpList_append_own_at _ rfl _ _ 30 rfl (w.heap.size + 3) 3 j0 (.int .i64 0) 1 8 Try.underlying30 hj0 hJ0 hJ1 hJ2 rfl (by decide) _ _ _ rfl (hirw.alloc _) ⟨w4.heap.size, 0, none⟩ 1 1 [.int .i64 t.Id] rfl rfl ?c1 ?c2 ?c3 ?c4 ?c5 ?_; (case c1 => exact cell_one_new _ _ _); (case c2 => simp [Value.oneCell']); (case c3 => (simp only [maxLen]; omega)); (case c4 => omega); (case c5 => (simp; omega)); intro v' wA hown1 hgrow hnil hat; obtain ⟨gg, cap, rfl, hg1, hg2⟩ := hown1.form (by omega))))
        go_roundw
        case rel =>
          have hbA : Below wr.heap.size wr (w4.alloc (.cells #[.int .i64 t.Id] 3)) := Below.alloc hb4r (by omega) _
          have hG := HG0.out.snocI hbA t.Id hown1 hgrow (hat.elim (fun h => .inl h.symm) (fun h => .inr (by simpa [Value.ownBlock] using h)))
          have hzA := hgrow.size
          simp at hzA
          have hneA : ∀ q, q < w.heap.size + 3 → some q ≠ (Value.slice B1 ys.length d1).ownBlock := fun q hq e => by have := hirlt q e.symm; omega
          refine ⟨k + 1, A1, c1, css, ls, some ⟨gg, 0, none⟩, cap, ys ++ [t.Id], by omega, by go_num, by rw [List.length_append]; rfl, by omega, by simp; omega, ?_, by omega, ?_, ?_, ?_, Lib.hid (by rw [List.length_append]; exact hG), Lib.hid (by rw [wFold_snoc HT.out, HL.out, wStep_gone HW.out])⟩
          · exact Below.grown (hb.trans (hbA.mono (by omega))) hgrow (by simp; omega) (fun q e => by have := hirlt q e; omega)
          · exact (BK0.alloc _).grown hgrow (hneA _ (by omega))
          · exact (BK1.alloc _).grown hgrow (hneA _ (by omega))
          · exact (BK2.alloc _).grown hgrow (hneA _ (by omega))
        case measure => simp [intOf]; omega
      have HW : Hid ((pr t || hasB ys t.Parent) = false) := Lib.hid (by rw [hx, hh]; rfl)
      rw [hh] at HHas
      clear hx hh
      have hrow : wr.ownsRow (w.heap.size + 3) 35 7 (.slice A1 ls.length c1) ls.length css.flatten := HG0.out.row
      generalize hcf : css.flatten = cf at hrow
      have HCf := Lib.hid hcf
      clear hcf
      have hne : ∀ g, g < w.heap.size + 3 → some g ≠ (Value.slice A1 ls.length c1).ownBlock := fun g hg e => by have := (hrow.lt _ e.symm).1; omega
      go_wp2_with (go_at_call 62; refine HHas.out.mono ?_; rintro e w' ⟨rfl, rfl⟩)
      have hbW : Below wr.heap.size wr w4.drew := Below.drew hb4r
      have BX2 : Blk w4.drew (w.heap.size + 1 + 1) 26 #[.slice A1 ls.length c1] := BK2.drew
      have hcx := BX2.cell; have hfx := BX2.frozen
      have hrW : Reads w4.drew (w4.drew).heap.size An (t.Names.map strV) := (hnr.below (B' := wr.heap.size) hbW (by omega)).more (Nat.le_trans (by omega) hbW.size)
      have hro : World.ownsRow w4.drew (w.heap.size + 3) 35 7 (.slice A1 ls.length c1) ls.length cf := own_below hrow hbW
      have hzW : wr.heap.size ≤ (w4.drew).heap.size := hbW.size
      go_region_law (first | (refine step_append_lies _ (by rfl) _ _ _ (by rfl) (w.heap.size + 3) 35 i0 _ 7 72 Try.underlying24 hi0 hz0 hz1 hz2 rfl (by omega) (.slice A1 ls.length c1) ls.length cf (by rfl) ((own_below hro hb2).alloc _) ⟨w2.heap.size, 0, none⟩ 1 1 [.int .i64 t.Id, .int .i64 t.Parent, .slice D t.Names.length d, .int .i64 t.Made, .int .i64 t.Ends, .int .i64 t.Limit, .int .i64 t.Uses] (by rfl) (by rfl) (World.news_of_block (cs := #[.int .i64 t.Id, .int .i64 t.Parent, .slice D t.Names.length d, .int .i64 t.Made, .int .i64 t.Ends, .int .i64 t.Limit, .int .i64 t.Uses]) (t := 35) (fr := (0, 0)) (heap_alloc_new w2 _)) (by simp [Value.oneCell']) (by omega) (by simp only [maxLen]; omega) (by omega) (by simp; omega) (w2.heap.size + 1) (by simp) ?_; intro gg cap w3 hown1 hgrow hat hlt1; have BY := Blk.grown (BX3.alloc (.cells #[.int .i64 t.Id, .int .i64 t.Parent, .slice D t.Names.length d, .int .i64 t.Made, .int .i64 t.Ends, .int .i64 t.Limit, .int .i64 t.Uses] 35)) hgrow (hne _ (by omega)); have hcY := BY.cell; have hfY := BY.frozen) | (go_simp; go_at_call 50; refine (impl_cloneToken t An cn _ hrW (by omega)).mono ?_; rintro e w2 ⟨D, d, rfl, ho, hb2⟩; have hsz2 := hb2.size; have BX3 := BX2.keep hb2; have hc3 := BX3.cell; have hf3 := BX3.frozen; have BX4 := BX3.alloc (.cells #[.int .i64 t.Id, .int .i64 t.Parent, .slice D t.Names.length d, .int .i64 t.Made, .int .i64 t.Ends, .int .i64 t.Limit, .int .i64 t.Uses] 35); have hc4 := BX4.cell; have hf4 := BX4.frozen))
      all_goals
        go_wp2
        go_roundw
        case rel =>
          have hbA : Below wr.heap.size wr (w2.alloc (.cells #[.int .i64 t.Id, .int .i64 t.Parent, .slice D t.Names.length d, .int .i64 t.Made, .int .i64 t.Ends, .int .i64 t.Limit, .int .i64 t.Uses] 35)) := Below.alloc (hbW.trans (hb2.mono hzW)) (by omega) _
          have hoA := TokenR.own_keep (own_Token_row ho HNs.out) ((Below.refl _ w2).alloc (Nat.le_refl _) (.cells #[.int .i64 t.Id, .int .i64 t.Parent, .slice D t.Names.length d, .int .i64 t.Made, .int .i64 t.Ends, .int .i64 t.Limit, .int .i64 t.Uses] 35))
          have hG := Two.snoc HG0.out hbA hoA hzW (by simp) (by omega) (by rw [HCf.out]; exact hown1) hgrow (hat.imp_right (fun h => by simpa using h))
          have hz3 := hgrow.size
          have hrowlt : ∀ q, (Value.slice A1 ls.length c1).ownBlock = some q → w.heap.size + 3 ≤ q := fun q e => (hrow.lt q e).1
          have hbw : Below w.heap.size w (w2.alloc (.cells #[.int .i64 t.Id, .int .i64 t.Parent, .slice D t.Names.length d, .int .i64 t.Made, .int .i64 t.Ends, .int .i64 t.Limit, .int .i64 t.Uses] 35)) := hb.trans (hbA.mono (by omega))
          have hb2r : Below w4.heap.size w4 (w2.alloc (.cells #[.int .i64 t.Id, .int .i64 t.Parent, .slice D t.Names.length d, .int .i64 t.Made, .int .i64 t.Ends, .int .i64 t.Limit, .int .i64 t.Uses] 35)) := Below.alloc (Below.trans (Below.drew (Below.refl _ _)) hb2) (by have := hb2.size; simpa using this) _
          refine ⟨k + 1, some ⟨gg, 0, none⟩, cap, _, ls ++ [t], B1, d1, ys, by omega, by go_num, rfl, by simp; omega, by omega, ?_, ?_, ?_, ?_, ?_, Lib.hid (by rw [List.length_append]; exact hG.setC (a := ⟨w.heap.size + 1 + 1, 0, none⟩) (by simp) _), Lib.hid (by rw [wFold_snoc HT.out, HL.out, wStep_kept HW.out])⟩
          · exact (Below.grown hbw hgrow (by simp; omega) (fun q e => by have := hrowlt q e; omega)).setCell (by simp; try omega) _
          · simp at hz3 ⊢; omega
          · exact ((BK0.keep hb2r).grown hgrow (hne _ (by omega))).far (by simp; omega) _
          · exact ((BK1.keep hb2r).grown hgrow (hne _ (by omega))).far (by simp) _
          · have hB := BY.set_ 0 (.slice (some ⟨gg, 0, none⟩) (ls.length + 1) cap)
            rw [List.length_append]
            simpa using hB
        case measure => simp [intOf]; omega
    · obtain rfl : k = n := by omega
      have hc1 := BK1.cell; have hf1 := BK1.frozen
      have hll : Hid (wFold pr ts = (ls, ys)) := Lib.hid (by rw [← HL.out, List.take_of_length_le (by rw [Hn.out]; exact Nat.le_refl _)])
      go_wp2
      refine bodyPost_ret (v := .tuple #[.agg #[.slice A1 ls.length c1], .slice B1 ys.length d1]) (by simp [results, Try.results33, go_sem, hc1, hf1]) rfl ⟨A1, c1, css, B1, d1, by rw [hll.out], ?_, by (repeat (first | (with_reducible exact Below.refl _ _) | (with_reducible assumption) | ((with_reducible refine Below.setCell ?_ ?_ _); rotate_left; focus (first | omega | (simp; done) | (simp; omega))) | ((with_reducible refine Below.alloc ?_ ?_ _); rotate_left; focus (first | omega | (simp; done) | (simp; omega))) | (with_reducible refine Below.drew ?_) | (with_reducible refine below_drewN ?_ _) | (refine Below.trans ?_ (Below.mono (by with_reducible assumption) (by (first | omega | (simp; done) | (simp; omega)))))))⟩
      rw [hll.out]
      exact (HG0.out.setC (a := ⟨w.heap.size + 1, 0, none⟩) (by simp) _).base (by omega)
set_option maxRecDepth 20000 in
set_option maxHeartbeats 6400000 in
theorem impl_without_Use (p : Addr) (pr : Token → Bool) (A : Option Addr) (c : Nat) (ts : List Token) (w : World) (hr : SlRd TokenR w w.heap.size (.slice A ts.length c) ts) (hm : szList TokenR ts ≤ 1048576)
    (hK : ∀ (t : Token) (A : Option Addr) (c : Nat) (w' : World), Below w.heap.size w w' → Calls Try.prog 73 #[.agg #[.int .i64 t.Id, .int .i64 t.Parent, .slice A t.Names.length c, .int .i64 t.Made, .int .i64 t.Ends, .int .i64 t.Limit, .int .i64 t.Uses], .pointer (some p)] w' fun e w'' => e = .returned (.bool (pr t)) ∧ Below w'.heap.size w' w'') :
    Calls Try.prog 33 #[.agg #[.slice A ts.length c], .func (.func 73) #[] #[.pointer (some p)]] w fun e w' => ∃ A1 c1 css B1 d1, e = .returned (.tuple #[.agg #[.slice A1 (wFold pr ts).1.length c1], .slice B1 (wFold pr ts).2.length d1]) ∧ Two TokenR 35 w' w.heap.size A1 (wFold pr ts).1.length c1 css (wFold pr ts).1 B1 (wFold pr ts).2.length d1 (wFold pr ts).2 ∧ Below w.heap.size w w' := by
  obtain ⟨i0, hi0, hz0, hz1, hz2⟩ := info_parts info_Token
  obtain ⟨j0, hj0, hJ0, hJ1, hJ2⟩ := info_parts info_int
  have hml : ts.length ≤ 1048576 := Nat.le_trans (Nat.le_add_right _ _) hm
  have HNm := Lib.hid (fun k t (h : ts[k]? = some t) => names_small hm h)
  have HK := Lib.hid (fun (t : Token) (A : Option Addr) (c : Nat) (b : Bool) (hb' : pr t = b) (w' : World) (hb : Below w.heap.size w w') => (hb' ▸ hK t A c w' hb : Calls Try.prog 73 #[.agg #[.int .i64 t.Id, .int .i64 t.Parent, .slice A t.Names.length c, .int .i64 t.Made, .int .i64 t.Ends, .int .i64 t.Limit, .int .i64 t.Uses], .pointer (some p)] w' fun e w'' => e = .returned (.bool b) ∧ Below w'.heap.size w' w''))
  generalize hn : ts.length = n at *
  have Hn := Lib.hid hn
  clear hn hm hK
  go_enter Try.func33, Try.ntmps33
  go_wp2
  go_loopw [7, 13] (fun sl i wr => ∃ (k : Nat) (A1 : Option Addr) (c1 : Nat) (css : List (List Value)) (ls : List Token) (B1 : Option Addr) (d1 : Nat) (ys : List Int), k ≤ n ∧ i = .int .i64 k ∧ sl = .slice B1 ys.length d1 ∧ ls.length ≤ k ∧ ys.length ≤ k ∧ Below w.heap.size w wr ∧ w.heap.size + 3 ≤ wr.heap.size ∧ Blk wr w.heap.size 26 #[.slice A n c] ∧ Blk wr (w.heap.size + 1) 26 #[.slice none 0 0] ∧ Blk wr (w.heap.size + 1 + 1) 26 #[.slice A1 ls.length c1] ∧ Hid (Two TokenR 35 wr (w.heap.size + 3) A1 ls.length c1 css ls B1 ys.length d1 ys) ∧ Hid (wFold pr (ts.take k) = (ls, ys))) (fun _ i _ => n - (intOf i).toNat)
  case atStart => exact ⟨0, none, 0, [], [], none, 0, [], Nat.zero_le _, rfl, rfl, Nat.zero_le _, Nat.zero_le _, by (repeat (first | (with_reducible exact Below.refl _ _) | (with_reducible assumption) | ((with_reducible refine Below.setCell ?_ ?_ _); rotate_left; focus (first | omega | (simp; done) | (simp; omega))) | ((with_reducible refine Below.alloc ?_ ?_ _); rotate_left; focus (first | omega | (simp; done) | (simp; omega))) | (with_reducible refine Below.drew ?_) | (with_reducible refine below_drewN ?_ _) | (refine Below.trans ?_ (Below.mono (by with_reducible assumption) (by (first | omega | (simp; done) | (simp; omega))))))), by simp, by (repeat (first | (with_reducible assumption) | ((with_reducible refine Blk.new' ?_); focus (simp; done)) | (with_reducible refine Blk.alloc ?_ _) | (with_reducible refine Blk.drew ?_) | (with_reducible refine Blk.drewN ?_ _) | ((with_reducible refine Blk.far ?_ ?_ _); rotate_left; focus (first | omega | (simp; done) | (simp; omega))) | (refine Blk.keep ?_ (by with_reducible assumption)) | (refine Blk.below ?_ (by with_reducible assumption) (by (first | omega | (simp; done) | (simp; omega)))))), by (repeat (first | (with_reducible assumption) | ((with_reducible refine Blk.new' ?_); focus (simp; done)) | (with_reducible refine Blk.alloc ?_ _) | (with_reducible refine Blk.drew ?_) | (with_reducible refine Blk.drewN ?_ _) | ((with_reducible refine Blk.far ?_ ?_ _); rotate_left; focus (first | omega | (simp; done) | (simp; omega))) | (refine Blk.keep ?_ (by with_reducible assumption)) | (refine Blk.below ?_ (by with_reducible assumption) (by (first | omega | (simp; done) | (simp; omega)))))), (by (repeat (first | (with_reducible assumption) | ((with_reducible refine Blk.new' ?_); focus (simp; done)) | (with_reducible refine Blk.alloc ?_ _) | (with_reducible refine Blk.drew ?_) | (with_reducible refine Blk.drewN ?_ _) | ((with_reducible refine Blk.far ?_ ?_ _); rotate_left; focus (first | omega | (simp; done) | (simp; omega))) | (refine Blk.keep ?_ (by with_reducible assumption)) | (refine Blk.below ?_ (by with_reducible assumption) (by (first | omega | (simp; done) | (simp; omega)))))) : Blk _ _ 26 #[.slice none 0 0]), Lib.hid (Two.nil _ _ _ _), Lib.hid rfl⟩
  case round =>
    obtain ⟨k, A1, c1, css, ls, B1, d1, ys, hk, rfl, rfl, hls, hys, hb, hzr, BK0, BK1, BK2, HG0, HL⟩ := hrel
    have hc0 := BK0.cell; have hc2 := BK2.cell; have hf2 := BK2.frozen
    by_cases hlt : k < n
    · skip
      have hlx : k < ts.length := by rw [Hn.out]; exact hlt
      have HT := Lib.hid (List.getElem?_eq_getElem hlx)
      generalize ts[k]'hlx = t at HT
      clear hlx
      obtain ⟨b, off, An, cn, rfl, hab, hnm, hq0, hq1, hq2, hq3, hq4, hq5, hq6⟩ := tok_elem (hr.below hb (Nat.le_refl _)) HT.out
      obtain ⟨-, hnr, -, -, hns⟩ := rd_StringS hnm
      have HNs := Lib.hid hns
      have hnl := HNm.out k t HT.out
      clear hnm hns
      cases hx : pr t
      rotate_left
      · have HX := Lib.hid hx
        have HW : Hid ((pr t || hasB ys t.Parent) = true) := Lib.hid (by rw [hx]; rfl)
        clear hx
        go_wp2_with fail
        refine (HK.out t An cn _ HX.out _ (by (repeat (first | (with_reducible exact Below.refl _ _) | (with_reducible assumption) | ((with_reducible refine Below.setCell ?_ ?_ _); rotate_left; focus (first | omega | (simp; done) | (simp; omega))) | ((with_reducible refine Below.alloc ?_ ?_ _); rotate_left; focus (first | omega | (simp; done) | (simp; omega))) | (with_reducible refine Below.drew ?_) | (with_reducible refine below_drewN ?_ _) | (refine Below.trans ?_ (Below.mono (by with_reducible assumption) (by (first | omega | (simp; done) | (simp; omega))))))))).mono ?_
        rintro e w4 ⟨rfl, hb4⟩
        have hz4 := hb4.size; try simp at hz4
        have BT : Blk w4 wr.heap.size 35 #[.int .i64 t.Id, .int .i64 t.Parent, .slice An t.Names.length cn, .int .i64 t.Made, .int .i64 t.Ends, .int .i64 t.Limit, .int .i64 t.Uses] := by (repeat (first | (with_reducible assumption) | ((with_reducible refine Blk.new' ?_); focus (simp; done)) | (with_reducible refine Blk.alloc ?_ _) | (with_reducible refine Blk.drew ?_) | (with_reducible refine Blk.drewN ?_ _) | ((with_reducible refine Blk.far ?_ ?_ _); rotate_left; focus (first | omega | (simp; done) | (simp; omega))) | (refine Blk.keep ?_ (by with_reducible assumption)) | (refine Blk.below ?_ (by with_reducible assumption) (by (first | omega | (simp; done) | (simp; omega))))))
        have hct := BT.cell; have hft := BT.frozen; have hlt4 := BT.lt
        have hb4r : Below wr.heap.size wr w4 := by (repeat (first | (with_reducible exact Below.refl _ _) | (with_reducible assumption) | ((with_reducible refine Below.setCell ?_ ?_ _); rotate_left; focus (first | omega | (simp; done) | (simp; omega))) | ((with_reducible refine Below.alloc ?_ ?_ _); rotate_left; focus (first | omega | (simp; done) | (simp; omega))) | (with_reducible refine Below.drew ?_) | (with_reducible refine below_drewN ?_ _) | (refine Below.trans ?_ (Below.mono (by with_reducible assumption) (by (first | omega | (simp; done) | (simp; omega)))))))
        replace BK0 := BK0.keep hb4r; replace BK1 := BK1.keep hb4r; replace BK2 := BK2.keep hb4r
        replace hc0 := BK0.cell; replace hc2 := BK2.cell; replace hf2 := BK2.frozen
        have hir : wr.ownsRow (w.heap.size + 3) 3 1 (.slice B1 ys.length d1) ys.length (ys.map intV) := HG0.out.irow
        have hirw := own_below hir hb4r
        have hirlt : ∀ q, (Value.slice B1 ys.length d1).ownBlock = some q → w.heap.size + 3 ≤ q ∧ q < wr.heap.size := fun q e => hir.lt q e
        go_wp2_with (first | (at_builtin; go_loud (refine wpList_append_own_at _ rfl _ _ 30 rfl (w.heap.size + 3) 3 j0 (.int .i64 0) 1 8 Try.underlying30 hj0 hJ0 hJ1 hJ2 rfl (by decide) _ _ _ rfl (hirw.alloc _) ⟨w4.heap.size, 0, none⟩ 1 1 [.int .i64 t.Id] rfl rfl ?c1 ?c2 ?c3 ?c4 ?c5 ?_; (case c1 => exact cell_one_new _ _ _); (case c2 => simp [Value.oneCell']); (case c3 => (simp only [maxLen]; omega)); (case c4 => omega); (case c5 => (simp; omega)); intro v' wA hown1 hgrow hnil hat; obtain ⟨gg, cap, rfl, hg1, hg2⟩ := hown1.form (by omega))))
        go_roundw
        case rel =>
          have hbA : Below wr.heap.size wr (w4.alloc (.cells #[.int .i64 t.Id] 3)) := Below.alloc hb4r (by omega) _
          have hG := HG0.out.snocI hbA t.Id hown1 hgrow (hat.elim (fun h => .inl h.symm) (fun h => .inr (by simpa [Value.ownBlock] using h)))
          have hzA := hgrow.size
          simp at hzA
          have hneA : ∀ q, q < w.heap.size + 3 → some q ≠ (Value.slice B1 ys.length d1).ownBlock := fun q hq e => by have := hirlt q e.symm; omega
          refine ⟨k + 1, A1, c1, css, ls, some ⟨gg, 0, none⟩, cap, ys ++ [t.Id], by omega, by go_num, by rw [List.length_append]; rfl, by omega, by simp; omega, ?_, by omega, ?_, ?_, ?_, Lib.hid (by rw [List.length_append]; exact hG), Lib.hid (by rw [wFold_snoc HT.out, HL.out, wStep_gone HW.out])⟩
          · exact Below.grown (hb.trans (hbA.mono (by omega))) hgrow (by simp; omega) (fun q e => by have := hirlt q e; omega)
          · exact (BK0.alloc _).grown hgrow (hneA _ (by omega))
          · exact (BK1.alloc _).grown hgrow (hneA _ (by omega))
          · exact (BK2.alloc _).grown hgrow (hneA _ (by omega))
        case measure => simp [intOf]; omega
      have HX := Lib.hid hx
      have HHas := Lib.hid (fun (w' : World) (h : Reads w' w'.heap.size B1 (ys.map intV)) => slices_Contains_int B1 d1 ys t.Parent w' h (by omega))
      go_wp2_with fail
      refine (HK.out t An cn _ HX.out _ (by (repeat (first | (with_reducible exact Below.refl _ _) | (with_reducible assumption) | ((with_reducible refine Below.setCell ?_ ?_ _); rotate_left; focus (first | omega | (simp; done) | (simp; omega))) | ((with_reducible refine Below.alloc ?_ ?_ _); rotate_left; focus (first | omega | (simp; done) | (simp; omega))) | (with_reducible refine Below.drew ?_) | (with_reducible refine below_drewN ?_ _) | (refine Below.trans ?_ (Below.mono (by with_reducible assumption) (by (first | omega | (simp; done) | (simp; omega))))))))).mono ?_
      rintro e w4 ⟨rfl, hb4⟩
      have hz4 := hb4.size; try simp at hz4
      have BT : Blk w4 wr.heap.size 35 #[.int .i64 t.Id, .int .i64 t.Parent, .slice An t.Names.length cn, .int .i64 t.Made, .int .i64 t.Ends, .int .i64 t.Limit, .int .i64 t.Uses] := by (repeat (first | (with_reducible assumption) | ((with_reducible refine Blk.new' ?_); focus (simp; done)) | (with_reducible refine Blk.alloc ?_ _) | (with_reducible refine Blk.drew ?_) | (with_reducible refine Blk.drewN ?_ _) | ((with_reducible refine Blk.far ?_ ?_ _); rotate_left; focus (first | omega | (simp; done) | (simp; omega))) | (refine Blk.keep ?_ (by with_reducible assumption)) | (refine Blk.below ?_ (by with_reducible assumption) (by (first | omega | (simp; done) | (simp; omega))))))
      have hct := BT.cell; have hft := BT.frozen; have hlt4 := BT.lt
      have hb4r : Below wr.heap.size wr w4 := by (repeat (first | (with_reducible exact Below.refl _ _) | (with_reducible assumption) | ((with_reducible refine Below.setCell ?_ ?_ _); rotate_left; focus (first | omega | (simp; done) | (simp; omega))) | ((with_reducible refine Below.alloc ?_ ?_ _); rotate_left; focus (first | omega | (simp; done) | (simp; omega))) | (with_reducible refine Below.drew ?_) | (with_reducible refine below_drewN ?_ _) | (refine Below.trans ?_ (Below.mono (by with_reducible assumption) (by (first | omega | (simp; done) | (simp; omega)))))))
      replace BK0 := BK0.keep hb4r; replace BK1 := BK1.keep hb4r; replace BK2 := BK2.keep hb4r
      replace hc0 := BK0.cell; replace hc2 := BK2.cell; replace hf2 := BK2.frozen
      have HRd : Hid (Reads w4 w4.heap.size B1 (ys.map intV)) := Lib.hid (Reads.of_own (own_below HG0.out.irow hb4r))
      replace HHas := Lib.hid (HHas.out w4 HRd.out)
      clear HRd
      cases hh : hasB ys t.Parent
      rotate_left
      · have HW : Hid ((pr t || hasB ys t.Parent) = true) := Lib.hid (by rw [hx, hh]; rfl)
        rw [hh] at HHas
        clear hx hh
        have hir : wr.ownsRow (w.heap.size + 3) 3 1 (.slice B1 ys.length d1) ys.length (ys.map intV) := HG0.out.irow
        have hirw := own_below hir hb4r
        have hirlt : ∀ q, (Value.slice B1 ys.length d1).ownBlock = some q → w.heap.size + 3 ≤ q ∧ q < wr.heap.size := fun q e => hir.lt q e
        go_wp2_with (first | (go_at_call 62; refine HHas.out.mono ?_; rintro e w' ⟨rfl, rfl⟩) | (at_builtin; go_loud (refine wpList_append_own_at _ rfl _ _ 30 rfl (w.heap.size + 3) 3 j0 (.int .i64 0) 1 8 Try.underlying30 hj0 hJ0 hJ1 hJ2 rfl (by decide) _ _ _ rfl (hirw.alloc _) ⟨w4.heap.size, 0, none⟩ 1 1 [.int .i64 t.Id] rfl rfl ?c1 ?c2 ?c3 ?c4 ?c5 ?_; (case c1 => exact cell_one_new _ _ _); (case c2 => simp [Value.oneCell']); (case c3 => (simp only [maxLen]; omega)); (case c4 => omega); (case c5 => (simp; omega)); intro v' wA hown1 hgrow hnil hat; obtain ⟨gg, cap, rfl, hg1, hg2⟩ := hown1.form (by omega))))
        go_roundw
        case rel =>
          have hbA : Below wr.heap.size wr (w4.alloc (.cells #[.int .i64 t.Id] 3)) := Below.alloc hb4r (by omega) _
          have hG := HG0.out.snocI hbA t.Id hown1 hgrow (hat.elim (fun h => .inl h.symm) (fun h => .inr (by simpa [Value.ownBlock] using h)))
          have hzA := hgrow.size
          simp at hzA
          have hneA : ∀ q, q < w.heap.size + 3 → some q ≠ (Value.slice B1 ys.length d1).ownBlock := fun q hq e => by have := hirlt q e.symm; omega
          refine ⟨k + 1, A1, c1, css, ls, some ⟨gg, 0, none⟩, cap, ys ++ [t.Id], by omega, by go_num, by rw [List.length_append]; rfl, by omega, by simp; omega, ?_, by omega, ?_, ?_, ?_, Lib.hid (by rw [List.length_append]; exact hG), Lib.hid (by rw [wFold_snoc HT.out, HL.out, wStep_gone HW.out])⟩
          · exact Below.grown (hb.trans (hbA.mono (by omega))) hgrow (by simp; omega) (fun q e => by have := hirlt q e; omega)
          · exact (BK0.alloc _).grown hgrow (hneA _ (by omega))
          · exact (BK1.alloc _).grown hgrow (hneA _ (by omega))
          · exact (BK2.alloc _).grown hgrow (hneA _ (by omega))
        case measure => simp [intOf]; omega
      have HW : Hid ((pr t || hasB ys t.Parent) = false) := Lib.hid (by rw [hx, hh]; rfl)
      rw [hh] at HHas
      clear hx hh
      have hrow : wr.ownsRow (w.heap.size + 3) 35 7 (.slice A1 ls.length c1) ls.length css.flatten := HG0.out.row
      generalize hcf : css.flatten = cf at hrow
      have HCf := Lib.hid hcf
      clear hcf
      have hne : ∀ g, g < w.heap.size + 3 → some g ≠ (Value.slice A1 ls.length c1).ownBlock := fun g hg e => by have := (hrow.lt _ e.symm).1; omega
      go_wp2_with (go_at_call 62; refine HHas.out.mono ?_; rintro e w' ⟨rfl, rfl⟩)
      have hbW : Below wr.heap.size wr w4.drew := Below.drew hb4r
      have BX2 : Blk w4.drew (w.heap.size + 1 + 1) 26 #[.slice A1 ls.length c1] := BK2.drew
      have hcx := BX2.cell; have hfx := BX2.frozen
      have hrW : Reads w4.drew (w4.drew).heap.size An (t.Names.map strV) := (hnr.below (B' := wr.heap.size) hbW (by omega)).more (Nat.le_trans (by omega) hbW.size)
      have hro : World.ownsRow w4.drew (w.heap.size + 3) 35 7 (.slice A1 ls.length c1) ls.length cf := own_below hrow hbW
      have hzW : wr.heap.size ≤ (w4.drew).heap.size := hbW.size
      go_region_law (first | (refine step_append_lies _ (by rfl) _ _ _ (by rfl) (w.heap.size + 3) 35 i0 _ 7 72 Try.underlying24 hi0 hz0 hz1 hz2 rfl (by omega) (.slice A1 ls.length c1) ls.length cf (by rfl) ((own_below hro hb2).alloc _) ⟨w2.heap.size, 0, none⟩ 1 1 [.int .i64 t.Id, .int .i64 t.Parent, .slice D t.Names.length d, .int .i64 t.Made, .int .i64 t.Ends, .int .i64 t.Limit, .int .i64 t.Uses] (by rfl) (by rfl) (World.news_of_block (cs := #[.int .i64 t.Id, .int .i64 t.Parent, .slice D t.Names.length d, .int .i64 t.Made, .int .i64 t.Ends, .int .i64 t.Limit, .int .i64 t.Uses]) (t := 35) (fr := (0, 0)) (heap_alloc_new w2 _)) (by simp [Value.oneCell']) (by omega) (by simp only [maxLen]; omega) (by omega) (by simp; omega) (w2.heap.size + 1) (by simp) ?_; intro gg cap w3 hown1 hgrow hat hlt1; have BY := Blk.grown (BX3.alloc (.cells #[.int .i64 t.Id, .int .i64 t.Parent, .slice D t.Names.length d, .int .i64 t.Made, .int .i64 t.Ends, .int .i64 t.Limit, .int .i64 t.Uses] 35)) hgrow (hne _ (by omega)); have hcY := BY.cell; have hfY := BY.frozen) | (go_simp; go_at_call 50; refine (impl_cloneToken t An cn _ hrW (by omega)).mono ?_; rintro e w2 ⟨D, d, rfl, ho, hb2⟩; have hsz2 := hb2.size; have BX3 := BX2.keep hb2; have hc3 := BX3.cell; have hf3 := BX3.frozen; have BX4 := BX3.alloc (.cells #[.int .i64 t.Id, .int .i64 t.Parent, .slice D t.Names.length d, .int .i64 t.Made, .int .i64 t.Ends, .int .i64 t.Limit, .int .i64 t.Uses] 35); have hc4 := BX4.cell; have hf4 := BX4.frozen))
      all_goals
        go_wp2
        go_roundw
        case rel =>
          have hbA : Below wr.heap.size wr (w2.alloc (.cells #[.int .i64 t.Id, .int .i64 t.Parent, .slice D t.Names.length d, .int .i64 t.Made, .int .i64 t.Ends, .int .i64 t.Limit, .int .i64 t.Uses] 35)) := Below.alloc (hbW.trans (hb2.mono hzW)) (by omega) _
          have hoA := TokenR.own_keep (own_Token_row ho HNs.out) ((Below.refl _ w2).alloc (Nat.le_refl _) (.cells #[.int .i64 t.Id, .int .i64 t.Parent, .slice D t.Names.length d, .int .i64 t.Made, .int .i64 t.Ends, .int .i64 t.Limit, .int .i64 t.Uses] 35))
          have hG := Two.snoc HG0.out hbA hoA hzW (by simp) (by omega) (by rw [HCf.out]; exact hown1) hgrow (hat.imp_right (fun h => by simpa using h))
          have hz3 := hgrow.size
          have hrowlt : ∀ q, (Value.slice A1 ls.length c1).ownBlock = some q → w.heap.size + 3 ≤ q := fun q e => (hrow.lt q e).1
          have hbw : Below w.heap.size w (w2.alloc (.cells #[.int .i64 t.Id, .int .i64 t.Parent, .slice D t.Names.length d, .int .i64 t.Made, .int .i64 t.Ends, .int .i64 t.Limit, .int .i64 t.Uses] 35)) := hb.trans (hbA.mono (by omega))
          have hb2r : Below w4.heap.size w4 (w2.alloc (.cells #[.int .i64 t.Id, .int .i64 t.Parent, .slice D t.Names.length d, .int .i64 t.Made, .int .i64 t.Ends, .int .i64 t.Limit, .int .i64 t.Uses] 35)) := Below.alloc (Below.trans (Below.drew (Below.refl _ _)) hb2) (by have := hb2.size; simpa using this) _
          refine ⟨k + 1, some ⟨gg, 0, none⟩, cap, _, ls ++ [t], B1, d1, ys, by omega, by go_num, rfl, by simp; omega, by omega, ?_, ?_, ?_, ?_, ?_, Lib.hid (by rw [List.length_append]; exact hG.setC (a := ⟨w.heap.size + 1 + 1, 0, none⟩) (by simp) _), Lib.hid (by rw [wFold_snoc HT.out, HL.out, wStep_kept HW.out])⟩
          · exact (Below.grown hbw hgrow (by simp; omega) (fun q e => by have := hrowlt q e; omega)).setCell (by simp; try omega) _
          · simp at hz3 ⊢; omega
          · exact ((BK0.keep hb2r).grown hgrow (hne _ (by omega))).far (by simp; omega) _
          · exact ((BK1.keep hb2r).grown hgrow (hne _ (by omega))).far (by simp) _
          · have hB := BY.set_ 0 (.slice (some ⟨gg, 0, none⟩) (ls.length + 1) cap)
            rw [List.length_append]
            simpa using hB
        case measure => simp [intOf]; omega
    · obtain rfl : k = n := by omega
      have hc1 := BK1.cell; have hf1 := BK1.frozen
      have hll : Hid (wFold pr ts = (ls, ys)) := Lib.hid (by rw [← HL.out, List.take_of_length_le (by rw [Hn.out]; exact Nat.le_refl _)])
      go_wp2
      refine bodyPost_ret (v := .tuple #[.agg #[.slice A1 ls.length c1], .slice B1 ys.length d1]) (by simp [results, Try.results33, go_sem, hc1, hf1]) rfl ⟨A1, c1, css, B1, d1, by rw [hll.out], ?_, by (repeat (first | (with_reducible exact Below.refl _ _) | (with_reducible assumption) | ((with_reducible refine Below.setCell ?_ ?_ _); rotate_left; focus (first | omega | (simp; done) | (simp; omega))) | ((with_reducible refine Below.alloc ?_ ?_ _); rotate_left; focus (first | omega | (simp; done) | (simp; omega))) | (with_reducible refine Below.drew ?_) | (with_reducible refine below_drewN ?_ _) | (refine Below.trans ?_ (Below.mono (by with_reducible assumption) (by (first | omega | (simp; done) | (simp; omega)))))))⟩
      rw [hll.out]
      exact (HG0.out.setC (a := ⟨w.heap.size + 1, 0, none⟩) (by simp) _).base (by omega)
end Go.Proofs.Ytcfhnhhgnophhaa

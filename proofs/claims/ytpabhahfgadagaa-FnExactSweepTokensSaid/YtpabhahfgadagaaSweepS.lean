/- SweepTokens, the reference's side. -/
import Derived.Test.YtpabhahfgadagaaPair
import Derived.Test.YtpabhahfgadagaaForestL
import Derived.Test.YtpabhahfgadagaaLate
import Derived.Test.YtpabhahfgadagaaHas
set_option linter.unusedSimpArgs false
set_option linter.unusedVariables false
namespace Go.Proofs.Ytpabhahfgadagaa
open Go.RowKit
set_option maxHeartbeats 3200000 in
theorem spec_SweepTokensL (cs : List Value) (f : Forest) (now : Int) (w : World) (h : ForestR.Rd w w.heap.size cs f) (hm : ForestR.sz f ≤ 1048576) :
    Calls Try.prog 18 #[.agg cs.toArray, .int .i64 now] w fun e w' => ∃ cs' v, e = .returned (.tuple #[.agg cs'.toArray, v]) ∧ Pair w' w.heap.size cs' ⟨sweepT f.Tokens now⟩ v (sweepI f.Tokens now) ∧ Below w.heap.size w w' := by
  obtain ⟨v0, rfl, q0⟩ := rd_Forest (_root_.id h)
  obtain ⟨A, c, rfl⟩ := q0.form
  obtain ⟨j0, hj0, hJ0, hJ1, hJ2⟩ := info_parts info_int
  have HOk := Lib.hid (fun (w' : World) (h : ForestR.Rd w' w'.heap.size [.slice A f.Tokens.length c] f) => spec_ForestOkL _ f w' h hm)
  have HR := Lib.hid (fun (w' : World) (hb : Below w.heap.size w w') (hz : w.heap.size ≤ w'.heap.size) => ForestR.rd_keep h hb hz)
  have HRs := Lib.hid (fun (w' : World) (hb : Below w.heap.size w w') (hz : w.heap.size ≤ w'.heap.size) => q0.keep hb hz)
  have HRb := Lib.hid (fun (w' : World) (hb : Below w.heap.size w w') => q0.below hb (Nat.le_refl _))
  rw [sz_Forest] at hm
  have hml : f.Tokens.length ≤ 1048576 := Nat.le_trans (Nat.le_add_right _ _) hm
  have HCl := Lib.hid (fun (w' : World) (h : SlRd TokenR w' w'.heap.size (.slice A f.Tokens.length c) f.Tokens) => spec_l08Copy A c f.Tokens w' h hm)
  have HLe := Lib.hid (fun (Ag : Option Addr) (cg : Nat) (gone : List Int) (w' : World) (h : SlRd TokenR w' w'.heap.size (.slice A f.Tokens.length c) f.Tokens) (hg : Reads w' w'.heap.size Ag (gone.map intV)) (hl : gone.length ≤ 140737488351232) => spec_l08Less A c f.Tokens Ag cg gone w' h hm hg hl)
  clear h q0
  generalize hT : f.Tokens = ts at *
  have HNm := Lib.hid (fun k t (h : ts[k]? = some t) => names_small hm h)
  clear hT hm
  generalize hn : ts.length = n at *
  have Hn := Lib.hid hn
  clear hn
  go_enter Try.func18, Try.ntmps18
  go_wp2_with fail
  refine (HOk.out _ (HR.out _ (by (repeat (first | (with_reducible exact Below.refl _ _) | (with_reducible assumption) | ((with_reducible refine Below.setCell ?_ ?_ _); rotate_left; focus (first | omega | (simp; done) | (simp; omega))) | ((with_reducible refine Below.alloc ?_ ?_ _); rotate_left; focus (first | omega | (simp; done) | (simp; omega))) | (with_reducible refine Below.drew ?_) | (with_reducible refine below_drewN ?_ _) | (refine Below.trans ?_ (Below.mono (by with_reducible assumption) (by (first | omega | (simp; done) | (simp; omega)))))))) (by first | omega | (simp; done) | (simp; omega)))).mono ?_
  rintro e w1 ⟨rfl, hb1⟩
  have hz1 := hb1.size; try simp at hz1
  have BK0 : Blk w1 w.heap.size 32 #[.slice A n c] := by (repeat (first | (with_reducible assumption) | ((with_reducible refine Blk.new' ?_); focus (simp; done)) | (with_reducible refine Blk.alloc ?_ _) | (with_reducible refine Blk.drew ?_) | (with_reducible refine Blk.drewN ?_ _) | ((with_reducible refine Blk.far ?_ ?_ _); rotate_left; focus (first | omega | (simp; done) | (simp; omega))) | (refine Blk.keep ?_ (by with_reducible assumption)) | (refine Blk.below ?_ (by with_reducible assumption) (by (first | omega | (simp; done) | (simp; omega))))))
  have BK1 : Blk w1 (w.heap.size + 1) 32 #[.slice none 0 0] := by (repeat (first | (with_reducible assumption) | ((with_reducible refine Blk.new' ?_); focus (simp; done)) | (with_reducible refine Blk.alloc ?_ _) | (with_reducible refine Blk.drew ?_) | (with_reducible refine Blk.drewN ?_ _) | ((with_reducible refine Blk.far ?_ ?_ _); rotate_left; focus (first | omega | (simp; done) | (simp; omega))) | (refine Blk.keep ?_ (by with_reducible assumption)) | (refine Blk.below ?_ (by with_reducible assumption) (by (first | omega | (simp; done) | (simp; omega))))))
  have hc0 := BK0.cell; have hc1 := BK1.cell; have hf1 := BK1.frozen
  have hlit : World.ownsRow _ _ 3 1 _ _ _ := World.ownsRow_lit (size := 1) ((w.alloc (.cells #[.slice A n c] 32)).alloc (.cells #[.slice none 0 0] 32)) #[] 0 (Nat.le_refl _) (by simp [maxLen]) rfl
  replace hlit := own_below hlit hb1
  cases hok : forestOk ts
  · have HD := Lib.hid (sweep_bad (now := now) hok)
    clear hok
    go_wp2_with fail
    refine (HCl.out _ (HRs.out _ (by (repeat (first | (with_reducible exact Below.refl _ _) | (with_reducible assumption) | ((with_reducible refine Below.setCell ?_ ?_ _); rotate_left; focus (first | omega | (simp; done) | (simp; omega))) | ((with_reducible refine Below.alloc ?_ ?_ _); rotate_left; focus (first | omega | (simp; done) | (simp; omega))) | (with_reducible refine Below.drew ?_) | (with_reducible refine below_drewN ?_ _) | (refine Below.trans ?_ (Below.mono (by with_reducible assumption) (by (first | omega | (simp; done) | (simp; omega)))))))) (by first | omega | (simp; done) | (simp; omega)))).mono ?_
    rintro e w2 ⟨D, d, css, rfl, G, hb2⟩
    have hz2 := hb2.size; try simp at hz2
    have G0 := Lib.hid G
    clear G
    replace BK1 : Blk w2 (w.heap.size + 1) 32 #[.slice none 0 0] := by (repeat (first | (with_reducible assumption) | ((with_reducible refine Blk.new' ?_); focus (simp; done)) | (with_reducible refine Blk.alloc ?_ _) | (with_reducible refine Blk.drew ?_) | (with_reducible refine Blk.drewN ?_ _) | ((with_reducible refine Blk.far ?_ ?_ _); rotate_left; focus (first | omega | (simp; done) | (simp; omega))) | (refine Blk.keep ?_ (by with_reducible assumption)) | (refine Blk.below ?_ (by with_reducible assumption) (by (first | omega | (simp; done) | (simp; omega))))))
    replace hc1 := BK1.cell; replace hf1 := BK1.frozen
    go_wp2
    refine bodyPost_ret (v := .tuple #[.agg #[.slice D n d], .slice none 0 0]) (by simp [results, Try.results18, go_sem, hc1, hf1]) rfl ⟨[.slice D n d], .slice none 0 0, rfl, ?_, by (repeat (first | (with_reducible exact Below.refl _ _) | (with_reducible assumption) | ((with_reducible refine Below.setCell ?_ ?_ _); rotate_left; focus (first | omega | (simp; done) | (simp; omega))) | ((with_reducible refine Below.alloc ?_ ?_ _); rotate_left; focus (first | omega | (simp; done) | (simp; omega))) | (with_reducible refine Below.drew ?_) | (with_reducible refine below_drewN ?_ _) | (refine Below.trans ?_ (Below.mono (by with_reducible assumption) (by (first | omega | (simp; done) | (simp; omega)))))))⟩
    rw [HD.out.1, HD.out.2]
    exact Grow.pair G0.out (by (repeat (first | (with_reducible exact Out.refl _ _) | (with_reducible assumption) | ((with_reducible refine Out.setCell ?_ ?_ _); rotate_left; focus (first | (refine Or.inl ?_; (first | omega | (simp; done) | (simp; omega))) | (refine Or.inr ?_; (first | omega | (simp; done) | (simp; omega))))) | (with_reducible refine Out.alloc ?_ _) | (with_reducible refine Out.drew ?_) | (with_reducible refine Out.drewN ?_ _) | (refine Out.step ?_ (by with_reducible assumption))))) (by first | omega | (simp; done) | (simp; omega)) (by first | omega | (simp; done) | (simp; omega))
  have HOK := Lib.hid hok
  clear hok
  have hbw : Below w.heap.size w w1 := by (repeat (first | (with_reducible exact Below.refl _ _) | (with_reducible assumption) | ((with_reducible refine Below.setCell ?_ ?_ _); rotate_left; focus (first | omega | (simp; done) | (simp; omega))) | ((with_reducible refine Below.alloc ?_ ?_ _); rotate_left; focus (first | omega | (simp; done) | (simp; omega))) | (with_reducible refine Below.drew ?_) | (with_reducible refine below_drewN ?_ _) | (refine Below.trans ?_ (Below.mono (by with_reducible assumption) (by (first | omega | (simp; done) | (simp; omega)))))))
  clear hc0 hc1 hf1 hb1
  go_wp2
  go_loopw [6, 7] (fun sl i wr => ∃ (k : Nat) (B : Option Addr) (d : Nat) (ys : List Int), k ≤ n ∧ i = .int .i64 k ∧ sl = .slice B ys.length d ∧ ys.length ≤ k ∧ Below w.heap.size w wr ∧ w.heap.size + 2 ≤ wr.heap.size ∧ Blk wr w.heap.size 32 #[.slice A n c] ∧ Blk wr (w.heap.size + 1) 32 #[.slice none 0 0] ∧ Hid (wr.ownsRow (w.heap.size + 2) 3 1 (.slice B ys.length d) ys.length (ys.map intV)) ∧ Hid (ys = (wFold (overP now) (ts.take k)).2)) (fun _ i _ => n - (intOf i).toNat)
  case atStart => exact ⟨0, _, 0, [], Nat.zero_le _, rfl, rfl, Nat.zero_le _, hbw, by omega, BK0, BK1, Lib.hid (by simpa using own_base hlit (by simp)), Lib.hid rfl⟩
  case round =>
    clear hbw BK0 BK1 hlit hz1
    obtain ⟨k, B, d, ys, hk, rfl, rfl, hys, hb, hzr, BK0, BK1, HI, HL⟩ := hrel
    have hc0 := BK0.cell
    by_cases hlt : k < n
    · have hlx : k < ts.length := by rw [Hn.out]; exact hlt
      have HT := Lib.hid (List.getElem?_eq_getElem hlx)
      generalize ts[k]'hlx = t at HT
      clear hlx
      obtain ⟨b, off, An, cn, rfl, hab, hnm, hq0, hq1, hq2, hq3, hq4, hq5, hq6⟩ := tok_elem (HRb.out _ hb) HT.out
      clear hnm
      have HZ := Lib.hid (wFold_zero (p := overP now) HOK.out k)
      cases hx : overB t.Ends now
      · have HX := Lib.hid hx
        clear hx
        cases hp : t.Parent == 0
        · have hp1 : (t.Parent != 0) = true := by simp only [bne, hp]; rfl
          cases hh : hasB ys t.Parent
          · have HW : Hid ((overP now t || hasB (wFold (overP now) (ts.take k)).2 t.Parent) = false) := Lib.hid (by rw [← HL.out, hh]; unfold overP; rw [HX.out]; rfl)
            have HH := Lib.hid hh
            clear hh
            go_wp2_with fail
            refine (spec_l08Over_b HX.out An cn _).mono ?_
            rintro e w3 ⟨rfl, hb3⟩
            have hz3 := hb3.size; try simp at hz3
            have BT : Blk w3 wr.heap.size 36 #[.int .i64 t.Id, .int .i64 t.Parent, .slice An t.Names.length cn, .int .i64 t.Made, .int .i64 t.Ends, .int .i64 t.Limit, .int .i64 t.Uses] := by (repeat (first | (with_reducible assumption) | ((with_reducible refine Blk.new' ?_); focus (simp; done)) | (with_reducible refine Blk.alloc ?_ _) | (with_reducible refine Blk.drew ?_) | (with_reducible refine Blk.drewN ?_ _) | ((with_reducible refine Blk.far ?_ ?_ _); rotate_left; focus (first | omega | (simp; done) | (simp; omega))) | (refine Blk.keep ?_ (by with_reducible assumption)) | (refine Blk.below ?_ (by with_reducible assumption) (by (first | omega | (simp; done) | (simp; omega))))))
            have hct := BT.cell; have hft := BT.frozen
            have hb3r : Below wr.heap.size wr w3 := by (repeat (first | (with_reducible exact Below.refl _ _) | (with_reducible assumption) | ((with_reducible refine Below.setCell ?_ ?_ _); rotate_left; focus (first | omega | (simp; done) | (simp; omega))) | ((with_reducible refine Below.alloc ?_ ?_ _); rotate_left; focus (first | omega | (simp; done) | (simp; omega))) | (with_reducible refine Below.drew ?_) | (with_reducible refine below_drewN ?_ _) | (refine Below.trans ?_ (Below.mono (by with_reducible assumption) (by (first | omega | (simp; done) | (simp; omega)))))))
            have hir := own_below HI.out hb3r
            have HRd : Hid (Reads w3 w3.heap.size B (ys.map intV)) := Lib.hid (Reads.of_own hir)
            have HHas := Lib.hid (HH.out ▸ spec_l01Has B d ys t.Parent w3 HRd.out (by omega) : Calls Try.prog 46 #[.slice B ys.length d, .int .i64 t.Parent] w3 fun e w'' => e = .returned (.bool false) ∧ w3 = w'')
            go_wp2_with fail
            refine HHas.out.mono ?_
            rintro e w' ⟨rfl, rfl⟩
            go_wp2
            go_roundw
            case rel => exact ⟨k + 1, B, d, ys, by omega, by go_num, rfl, by omega, hb.trans (hb3r.mono (by omega)), by omega, BK0.keep hb3r, BK1.keep hb3r, Lib.hid hir, Lib.hid (by rw [wFold_snoc HT.out, wStep_kept HW.out]; exact HL.out)⟩
            case measure => simp [intOf]; omega
          · have HW : Hid ((overP now t || hasB (wFold (overP now) (ts.take k)).2 t.Parent) = true) := Lib.hid (by rw [← HL.out, hh]; simp)
            have HH := Lib.hid hh
            clear hh
            go_wp2_with fail
            refine (spec_l08Over_b HX.out An cn _).mono ?_
            rintro e w3 ⟨rfl, hb3⟩
            have hz3 := hb3.size; try simp at hz3
            have BT : Blk w3 wr.heap.size 36 #[.int .i64 t.Id, .int .i64 t.Parent, .slice An t.Names.length cn, .int .i64 t.Made, .int .i64 t.Ends, .int .i64 t.Limit, .int .i64 t.Uses] := by (repeat (first | (with_reducible assumption) | ((with_reducible refine Blk.new' ?_); focus (simp; done)) | (with_reducible refine Blk.alloc ?_ _) | (with_reducible refine Blk.drew ?_) | (with_reducible refine Blk.drewN ?_ _) | ((with_reducible refine Blk.far ?_ ?_ _); rotate_left; focus (first | omega | (simp; done) | (simp; omega))) | (refine Blk.keep ?_ (by with_reducible assumption)) | (refine Blk.below ?_ (by with_reducible assumption) (by (first | omega | (simp; done) | (simp; omega))))))
            have hct := BT.cell; have hft := BT.frozen
            have hb3r : Below wr.heap.size wr w3 := by (repeat (first | (with_reducible exact Below.refl _ _) | (with_reducible assumption) | ((with_reducible refine Below.setCell ?_ ?_ _); rotate_left; focus (first | omega | (simp; done) | (simp; omega))) | ((with_reducible refine Below.alloc ?_ ?_ _); rotate_left; focus (first | omega | (simp; done) | (simp; omega))) | (with_reducible refine Below.drew ?_) | (with_reducible refine below_drewN ?_ _) | (refine Below.trans ?_ (Below.mono (by with_reducible assumption) (by (first | omega | (simp; done) | (simp; omega)))))))
            have hir := own_below HI.out hb3r
            have HRd : Hid (Reads w3 w3.heap.size B (ys.map intV)) := Lib.hid (Reads.of_own hir)
            have HHas := Lib.hid (HH.out ▸ spec_l01Has B d ys t.Parent w3 HRd.out (by omega) : Calls Try.prog 46 #[.slice B ys.length d, .int .i64 t.Parent] w3 fun e w'' => e = .returned (.bool true) ∧ w3 = w'')
            have hirlt : ∀ q, (Value.slice B ys.length d).ownBlock = some q → w.heap.size + 2 ≤ q ∧ q < w3.heap.size := fun q e => hir.lt q e
            go_wp2_with fail
            refine HHas.out.mono ?_
            rintro e w' ⟨rfl, rfl⟩
            go_wp2_with (first | (at_builtin; go_loud (refine wpList_append_own_at _ rfl _ _ 43 rfl (w.heap.size + 2) 3 j0 (.int .i64 0) 1 8 Try.underlying43 hj0 hJ0 hJ1 hJ2 rfl (by decide) _ _ _ rfl (hir.alloc _) ⟨w3.heap.size, 0, none⟩ 1 1 [.int .i64 t.Id] rfl rfl ?c1 ?c2 ?c3 ?c4 ?c5 ?_; (case c1 => exact cell_one_new _ _ _); (case c2 => simp [Value.oneCell']); (case c3 => (simp only [maxLen]; omega)); (case c4 => omega); (case c5 => (simp; omega)); intro v' wA hown1 hgrow hnil hat; obtain ⟨gg, cap, rfl, hg1, hg2⟩ := hown1.form (by omega))))
            go_roundw
            case rel =>
              have hzA := hgrow.size
              simp at hzA
              have hbA : Below w.heap.size w (w3.alloc (.cells #[.int .i64 t.Id] 3)) := Below.alloc (hb.trans (hb3r.mono (by omega))) (by omega) _
              refine ⟨k + 1, some ⟨gg, 0, none⟩, cap, ys ++ [t.Id], by omega, by go_num, by rw [List.length_append]; rfl, by simp; omega, ?_, by omega, ?_, ?_, Lib.hid (by rw [List.length_append, List.map_append]; exact hown1), Lib.hid (by rw [wFold_snoc HT.out, wStep_gone HW.out, ← HL.out])⟩
              · exact Below.grown hbA hgrow (by simp; omega) (fun q e => by have := hirlt q e; omega)
              · exact ((BK0.keep hb3r).alloc _).grown hgrow (fun e => by have := hirlt _ e.symm; omega)
              · exact ((BK1.keep hb3r).alloc _).grown hgrow (fun e => by have := hirlt _ e.symm; omega)
            case measure => simp [intOf]; omega
        · have hp1 : (t.Parent != 0) = false := by simp only [bne, hp]; rfl
          have HW : Hid ((overP now t || hasB (wFold (overP now) (ts.take k)).2 t.Parent) = false) := Lib.hid (by rw [show t.Parent = 0 by simpa using hp, HZ.out]; unfold overP; rw [HX.out]; rfl)
          go_wp2_with fail
          refine (spec_l08Over_b HX.out An cn _).mono ?_
          rintro e w3 ⟨rfl, hb3⟩
          have hz3 := hb3.size; try simp at hz3
          have BT : Blk w3 wr.heap.size 36 #[.int .i64 t.Id, .int .i64 t.Parent, .slice An t.Names.length cn, .int .i64 t.Made, .int .i64 t.Ends, .int .i64 t.Limit, .int .i64 t.Uses] := by (repeat (first | (with_reducible assumption) | ((with_reducible refine Blk.new' ?_); focus (simp; done)) | (with_reducible refine Blk.alloc ?_ _) | (with_reducible refine Blk.drew ?_) | (with_reducible refine Blk.drewN ?_ _) | ((with_reducible refine Blk.far ?_ ?_ _); rotate_left; focus (first | omega | (simp; done) | (simp; omega))) | (refine Blk.keep ?_ (by with_reducible assumption)) | (refine Blk.below ?_ (by with_reducible assumption) (by (first | omega | (simp; done) | (simp; omega))))))
          have hct := BT.cell; have hft := BT.frozen
          have hb3r : Below wr.heap.size wr w3 := by (repeat (first | (with_reducible exact Below.refl _ _) | (with_reducible assumption) | ((with_reducible refine Below.setCell ?_ ?_ _); rotate_left; focus (first | omega | (simp; done) | (simp; omega))) | ((with_reducible refine Below.alloc ?_ ?_ _); rotate_left; focus (first | omega | (simp; done) | (simp; omega))) | (with_reducible refine Below.drew ?_) | (with_reducible refine below_drewN ?_ _) | (refine Below.trans ?_ (Below.mono (by with_reducible assumption) (by (first | omega | (simp; done) | (simp; omega)))))))
          have hir := own_below HI.out hb3r
          go_wp2
          go_roundw
          case rel => exact ⟨k + 1, B, d, ys, by omega, by go_num, rfl, by omega, hb.trans (hb3r.mono (by omega)), by omega, BK0.keep hb3r, BK1.keep hb3r, Lib.hid hir, Lib.hid (by rw [wFold_snoc HT.out, wStep_kept HW.out]; exact HL.out)⟩
          case measure => simp [intOf]; omega
      · have HX := Lib.hid hx
        have HW : Hid ((overP now t || hasB (wFold (overP now) (ts.take k)).2 t.Parent) = true) := Lib.hid (by unfold overP; rw [hx]; rfl)
        clear hx
        go_wp2_with fail
        refine (spec_l08Over_b HX.out An cn _).mono ?_
        rintro e w3 ⟨rfl, hb3⟩
        have hz3 := hb3.size; try simp at hz3
        have BT : Blk w3 wr.heap.size 36 #[.int .i64 t.Id, .int .i64 t.Parent, .slice An t.Names.length cn, .int .i64 t.Made, .int .i64 t.Ends, .int .i64 t.Limit, .int .i64 t.Uses] := by (repeat (first | (with_reducible assumption) | ((with_reducible refine Blk.new' ?_); focus (simp; done)) | (with_reducible refine Blk.alloc ?_ _) | (with_reducible refine Blk.drew ?_) | (with_reducible refine Blk.drewN ?_ _) | ((with_reducible refine Blk.far ?_ ?_ _); rotate_left; focus (first | omega | (simp; done) | (simp; omega))) | (refine Blk.keep ?_ (by with_reducible assumption)) | (refine Blk.below ?_ (by with_reducible assumption) (by (first | omega | (simp; done) | (simp; omega))))))
        have hct := BT.cell; have hft := BT.frozen
        have hb3r : Below wr.heap.size wr w3 := by (repeat (first | (with_reducible exact Below.refl _ _) | (with_reducible assumption) | ((with_reducible refine Below.setCell ?_ ?_ _); rotate_left; focus (first | omega | (simp; done) | (simp; omega))) | ((with_reducible refine Below.alloc ?_ ?_ _); rotate_left; focus (first | omega | (simp; done) | (simp; omega))) | (with_reducible refine Below.drew ?_) | (with_reducible refine below_drewN ?_ _) | (refine Below.trans ?_ (Below.mono (by with_reducible assumption) (by (first | omega | (simp; done) | (simp; omega)))))))
        have hir := own_below HI.out hb3r
        have hirlt : ∀ q, (Value.slice B ys.length d).ownBlock = some q → w.heap.size + 2 ≤ q ∧ q < w3.heap.size := fun q e => hir.lt q e
        go_wp2_with (first | (at_builtin; go_loud (refine wpList_append_own_at _ rfl _ _ 43 rfl (w.heap.size + 2) 3 j0 (.int .i64 0) 1 8 Try.underlying43 hj0 hJ0 hJ1 hJ2 rfl (by decide) _ _ _ rfl (hir.alloc _) ⟨w3.heap.size, 0, none⟩ 1 1 [.int .i64 t.Id] rfl rfl ?c1 ?c2 ?c3 ?c4 ?c5 ?_; (case c1 => exact cell_one_new _ _ _); (case c2 => simp [Value.oneCell']); (case c3 => (simp only [maxLen]; omega)); (case c4 => omega); (case c5 => (simp; omega)); intro v' wA hown1 hgrow hnil hat; obtain ⟨gg, cap, rfl, hg1, hg2⟩ := hown1.form (by omega))))
        go_roundw
        case rel =>
          have hzA := hgrow.size
          simp at hzA
          have hbA : Below w.heap.size w (w3.alloc (.cells #[.int .i64 t.Id] 3)) := Below.alloc (hb.trans (hb3r.mono (by omega))) (by omega) _
          refine ⟨k + 1, some ⟨gg, 0, none⟩, cap, ys ++ [t.Id], by omega, by go_num, by rw [List.length_append]; rfl, by simp; omega, ?_, by omega, ?_, ?_, Lib.hid (by rw [List.length_append, List.map_append]; exact hown1), Lib.hid (by rw [wFold_snoc HT.out, wStep_gone HW.out, ← HL.out])⟩
          · exact Below.grown hbA hgrow (by simp; omega) (fun q e => by have := hirlt q e; omega)
          · exact ((BK0.keep hb3r).alloc _).grown hgrow (fun e => by have := hirlt _ e.symm; omega)
          · exact ((BK1.keep hb3r).alloc _).grown hgrow (fun e => by have := hirlt _ e.symm; omega)
        case measure => simp [intOf]; omega
    · obtain rfl : k = n := by omega
      have HL2 : Hid (ys = sweepI ts now) := Lib.hid (by rw [HL.out, List.take_of_length_le (by rw [Hn.out]; exact Nat.le_refl _), (sweep_ok HOK.out).2])
      have HTt : Hid (sweepT ts now = lessT ts ys) := Lib.hid (by rw [HL2.out]; exact sweep_less HOK.out)
      go_wp2_with fail
      refine (HLe.out B d ys _ (HRs.out _ (by (repeat (first | (with_reducible exact Below.refl _ _) | (with_reducible assumption) | ((with_reducible refine Below.setCell ?_ ?_ _); rotate_left; focus (first | omega | (simp; done) | (simp; omega))) | ((with_reducible refine Below.alloc ?_ ?_ _); rotate_left; focus (first | omega | (simp; done) | (simp; omega))) | (with_reducible refine Below.drew ?_) | (with_reducible refine below_drewN ?_ _) | (refine Below.trans ?_ (Below.mono (by with_reducible assumption) (by (first | omega | (simp; done) | (simp; omega)))))))) (by omega)) (Reads.of_own HI.out) (by omega)).mono ?_
      rintro e w2 ⟨A1, c1, css, rfl, G, hb2⟩
      have hz2 := hb2.size; try simp at hz2
      have G0 := Lib.hid G
      clear G
      replace BK1 : Blk w2 (w.heap.size + 1) 32 #[.slice none 0 0] := by (repeat (first | (with_reducible assumption) | ((with_reducible refine Blk.new' ?_); focus (simp; done)) | (with_reducible refine Blk.alloc ?_ _) | (with_reducible refine Blk.drew ?_) | (with_reducible refine Blk.drewN ?_ _) | ((with_reducible refine Blk.far ?_ ?_ _); rotate_left; focus (first | omega | (simp; done) | (simp; omega))) | (refine Blk.keep ?_ (by with_reducible assumption)) | (refine Blk.below ?_ (by with_reducible assumption) (by (first | omega | (simp; done) | (simp; omega))))))
      have hc1 := BK1.cell; have hf1 := BK1.frozen
      go_wp2
      refine bodyPost_ret (v := .tuple #[.agg #[.slice A1 (lessT ts ys).length c1], .slice B ys.length d]) (by simp [results, Try.results18, go_sem, hc1, hf1]) rfl ⟨[.slice A1 (lessT ts ys).length c1], .slice B ys.length d, rfl, ?_, by (repeat (first | (with_reducible exact Below.refl _ _) | (with_reducible assumption) | ((with_reducible refine Below.setCell ?_ ?_ _); rotate_left; focus (first | omega | (simp; done) | (simp; omega))) | ((with_reducible refine Below.alloc ?_ ?_ _); rotate_left; focus (first | omega | (simp; done) | (simp; omega))) | (with_reducible refine Below.drew ?_) | (with_reducible refine below_drewN ?_ _) | (refine Below.trans ?_ (Below.mono (by with_reducible assumption) (by (first | omega | (simp; done) | (simp; omega)))))))⟩
      rw [HTt.out, ← HL2.out]
      exact Pair.two G0.out.forest (SlOwn.off (of_own_in_IntS HI.out) (by (repeat (first | (with_reducible exact Out.refl _ _) | (with_reducible assumption) | ((with_reducible refine Out.setCell ?_ ?_ _); rotate_left; focus (first | (refine Or.inl ?_; (first | omega | (simp; done) | (simp; omega))) | (refine Or.inr ?_; (first | omega | (simp; done) | (simp; omega))))) | (with_reducible refine Out.alloc ?_ _) | (with_reducible refine Out.drew ?_) | (with_reducible refine Out.drewN ?_ _) | (refine Out.step ?_ (by with_reducible assumption)))) : Out (Off _ _) wr w2)) (by (repeat (first | (with_reducible exact Out.refl _ _) | (with_reducible assumption) | ((with_reducible refine Out.setCell ?_ ?_ _); rotate_left; focus (first | (refine Or.inl ?_; (first | omega | (simp; done) | (simp; omega))) | (refine Or.inr ?_; (first | omega | (simp; done) | (simp; omega))))) | (with_reducible refine Out.alloc ?_ _) | (with_reducible refine Out.drew ?_) | (with_reducible refine Out.drewN ?_ _) | (refine Out.step ?_ (by with_reducible assumption))))) (by (repeat (first | (with_reducible exact Out.refl _ _) | (with_reducible assumption) | ((with_reducible refine Out.setCell ?_ ?_ _); rotate_left; focus (first | (refine Or.inl ?_; (first | omega | (simp; done) | (simp; omega))) | (refine Or.inr ?_; (first | omega | (simp; done) | (simp; omega))))) | (with_reducible refine Out.alloc ?_ _) | (with_reducible refine Out.drew ?_) | (with_reducible refine Out.drewN ?_ _) | (refine Out.step ?_ (by with_reducible assumption))))) (Nat.le_refl _) (by omega) (by first | omega | (simp; done) | (simp; omega)) (by first | omega | (simp; done) | (simp; omega)) (by first | omega | (simp; done) | (simp; omega))
end Go.Proofs.Ytpabhahfgadagaa

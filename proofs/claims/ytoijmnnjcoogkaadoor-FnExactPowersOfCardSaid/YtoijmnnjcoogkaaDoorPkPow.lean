/- impl.powersOf (printed by wip/gen/genpow.py). impl.PowersOf (printed by wip/gen/genpow.py). spec.PowersOf (printed by wip/gen/genpow.py). -/
import Derived.Test.YtoijmnnjcoogkaaDoorRuleLib
import Derived.Test.YtoijmnnjcoogkaaDoorGrow
import Derived.Test.YtoijmnnjcoogkaaDoorPkUse
import Derived.Test.YtoijmnnjcoogkaaDoorPkPols
import Derived.Test.YtoijmnnjcoogkaaDoorDepth
import Derived.Test.YtoijmnnjcoogkaaDoorNil
import Derived.Test.YtoijmnnjcoogkaaDoorFindS
set_option linter.unusedSimpArgs false
set_option linter.unusedVariables false
set_option maxRecDepth 20000
namespace Go.Proofs.YtoijmnnjcoogkaaDoor
open Go.RowKit
set_option maxHeartbeats 6400000 in
theorem impl_powersOf (t : Token) (An : Option Addr) (cn : Nat) (A : Option Addr) (c : Nat) (ps : List Policy) (w : World) (hn : Reads w w.heap.size An (t.Names.map strV)) (hnl : t.Names.length ≤ 1048576) (hr : SlRd PolicyR w w.heap.size (.slice A ps.length c) ps) (hm : szList PolicyR ps ≤ 1048576) :
    Calls Tryd.prog 26 #[.agg #[.int .i64 t.Id, .int .i64 t.Parent, .slice An t.Names.length cn, .int .i64 t.Made, .int .i64 t.Ends, .int .i64 t.Limit, .int .i64 t.Uses], .slice A ps.length c] w fun e w' => ∃ A1 c1 css, e = .returned (.slice A1 (powL t ps).length c1) ∧ Grow PolicyR 55 w' w.heap.size A1 (powL t ps).length c1 css (powL t ps) ∧ Below w.heap.size w w' := by
  obtain ⟨i0, hi0, hz0, hz1, hz2⟩ := info_parts info_Policy
  have HSm := Lib.hid (fun (k : Nat) (p : Policy) (h : ps[k]? = some p) => Nat.le_trans (szList_one (R := PolicyR) h) hm)
  have hpl : ps.length ≤ 1048576 := Nat.le_trans (Nat.le_add_right _ _) hm
  have HC := Lib.hid (fun (x : ByteArray) (w' : World) (hb : Below w.heap.size w w') => slices_Contains_str An cn t.Names x w' ((hn.below hb (Nat.le_refl _)).more hb.size) (by omega))
  clear hn
  generalize hn : ps.length = n at *
  have Hn := Lib.hid hn
  clear hn hm
  go_enter Tryd.func26, Tryd.ntmps26
  go_wp2
  go_loopw [5, 10] (fun sl i wr => ∃ (k : Nat) (A1 : Option Addr) (c1 : Nat) (css : List (List Value)) (ls : List Policy), k ≤ n ∧ i = .int .i64 k ∧ sl = .slice A1 ls.length c1 ∧ ls.length ≤ k ∧ Below w.heap.size w wr ∧ w.heap.size + 1 ≤ wr.heap.size ∧ Blk wr w.heap.size 48 #[.int .i64 t.Id, .int .i64 t.Parent, .slice An t.Names.length cn, .int .i64 t.Made, .int .i64 t.Ends, .int .i64 t.Limit, .int .i64 t.Uses] ∧ Hid (Grow PolicyR 55 wr (w.heap.size + 1) A1 ls.length c1 css ls) ∧ Hid (ls = powL t (ps.take k))) (fun _ i _ => n - (intOf i).toNat)
  case atStart => exact ⟨0, none, 0, [], [], Nat.zero_le _, rfl, rfl, Nat.zero_le _, by (repeat (first | (with_reducible exact Below.refl _ _) | (with_reducible assumption) | ((with_reducible refine Below.setCell ?_ ?_ _); rotate_left; focus (first | omega | (simp; done) | (simp; omega))) | ((with_reducible refine Below.alloc ?_ ?_ _); rotate_left; focus (first | omega | (simp; done) | (simp; omega))) | (with_reducible refine Below.drew ?_) | (with_reducible refine below_drewN ?_ _) | (refine Below.trans ?_ (Below.mono (by with_reducible assumption) (by (first | omega | (simp; done) | (simp; omega))))))), by simp, by (repeat (first | (with_reducible assumption) | ((with_reducible refine Blk.new' ?_); focus (simp; done)) | (with_reducible refine Blk.alloc ?_ _) | (with_reducible refine Blk.drew ?_) | (with_reducible refine Blk.drewN ?_ _) | ((with_reducible refine Blk.far ?_ ?_ _); rotate_left; focus (first | omega | (simp; done) | (simp; omega))) | (refine Blk.keep ?_ (by with_reducible assumption)) | (refine Blk.below ?_ (by with_reducible assumption) (by (first | omega | (simp; done) | (simp; omega)))))), Lib.hid (Grow.nil _ _ _ _), Lib.hid rfl⟩
  case round =>
    obtain ⟨k, A1, c1, css, ls, hk, rfl, rfl, hls, hb, hzr, BK0, HG0, HL⟩ := hrel
    by_cases hlt : k < n
    · have hlx : k < ps.length := by rw [Hn.out]; exact hlt
      have HG := Lib.hid (List.getElem?_eq_getElem hlx)
      generalize ps[k]'hlx = p at HG
      clear hlx
      have hzr' := hb.size
      obtain ⟨b, off, Ar, cr, rfl, hab, hps, hru, hq0, hq1⟩ := pol_elem (hr.below hb (Nat.le_refl _)) HG.out
      have hsm := HSm.out k p HG.out
      rw [sz_Policy] at hsm
      have hrl : p.Rules.length ≤ 1048576 := by unfold szList at hsm; omega
      clear hsm
      obtain ⟨hrr, hrs⟩ := reads_RuleS hru
      have HRs := Lib.hid hrs
      clear hrs
      have hc0 := BK0.cell
      have hbW : Below wr.heap.size wr (wr.alloc (.cells #[.string p.Name, .slice Ar p.Rules.length cr] 55)) := Below.alloc (Below.refl _ _) (Nat.le_refl _) _
      have BP : Blk (wr.alloc (.cells #[.string p.Name, .slice Ar p.Rules.length cr] 55)) wr.heap.size 55 #[.string p.Name, .slice Ar p.Rules.length cr] := Blk.new' rfl
      have hcp := BP.cell
      have BKW : Blk (wr.alloc (.cells #[.string p.Name, .slice Ar p.Rules.length cr] 55)) w.heap.size 48 #[.int .i64 t.Id, .int .i64 t.Parent, .slice An t.Names.length cn, .int .i64 t.Made, .int .i64 t.Ends, .int .i64 t.Limit, .int .i64 t.Uses] := by (repeat (first | (with_reducible assumption) | ((with_reducible refine Blk.new' ?_); focus (simp; done)) | (with_reducible refine Blk.alloc ?_ _) | (with_reducible refine Blk.drew ?_) | (with_reducible refine Blk.drewN ?_ _) | ((with_reducible refine Blk.far ?_ ?_ _); rotate_left; focus (first | omega | (simp; done) | (simp; omega))) | (refine Blk.keep ?_ (by with_reducible assumption)) | (refine Blk.below ?_ (by with_reducible assumption) (by (first | omega | (simp; done) | (simp; omega))))))
      have hcW := BKW.cell
      have HCp := Lib.hid (HC.out p.Name (wr.alloc (.cells #[.string p.Name, .slice Ar p.Rules.length cr] 55)) (hb.trans (hbW.mono hzr')))
      cases hx : hasPol t p
      · have HW := Lib.hid (powL_snoc_no HG.out hx)
        have hh : hasT t.Names p.Name = false := hx
        rw [hh] at HCp
        clear hx hh
        go_wp2_with (go_at_call 45; refine HCp.out.mono ?_; rintro e w' ⟨rfl, rfl⟩)
        go_roundw
        case rel => exact ⟨k + 1, A1, c1, css, ls, by omega, by go_num, rfl, by omega, by (repeat (first | (with_reducible exact Below.refl _ _) | (with_reducible assumption) | ((with_reducible refine Below.setCell ?_ ?_ _); rotate_left; focus (first | omega | (simp; done) | (simp; omega))) | ((with_reducible refine Below.alloc ?_ ?_ _); rotate_left; focus (first | omega | (simp; done) | (simp; omega))) | (with_reducible refine Below.drew ?_) | (with_reducible refine below_drewN ?_ _) | (refine Below.trans ?_ (Below.mono (by with_reducible assumption) (by (first | omega | (simp; done) | (simp; omega))))))), by simp; omega, BKW, Lib.hid (HG0.out.keep hbW), Lib.hid (by rw [HW.out]; exact HL.out)⟩
        case measure => simp [intOf]; omega
      have HW := Lib.hid (powL_snoc_yes HG.out hx)
      have hh : hasT t.Names p.Name = true := hx
      rw [hh] at HCp
      clear hx hh
      have hrow : wr.ownsRow (w.heap.size + 1) 55 2 (.slice A1 ls.length c1) ls.length css.flatten := HG0.out.row
      generalize hcf : css.flatten = cf at hrow
      have HCf := Lib.hid hcf
      clear hcf
      have hne : ∀ q, q < w.heap.size + 1 → some q ≠ (Value.slice A1 ls.length c1).ownBlock := fun q hq e => by have := (hrow.lt _ e.symm).1; omega
      go_wp2_with (go_at_call 45; refine HCp.out.mono ?_; rintro e w' ⟨rfl, rfl⟩)
      have hbX : Below wr.heap.size wr (wr.alloc (.cells #[.string p.Name, .slice Ar p.Rules.length cr] 55)).drew := by (repeat (first | (with_reducible exact Below.refl _ _) | (with_reducible assumption) | ((with_reducible refine Below.setCell ?_ ?_ _); rotate_left; focus (first | omega | (simp; done) | (simp; omega))) | ((with_reducible refine Below.alloc ?_ ?_ _); rotate_left; focus (first | omega | (simp; done) | (simp; omega))) | (with_reducible refine Below.drew ?_) | (with_reducible refine below_drewN ?_ _) | (refine Below.trans ?_ (Below.mono (by with_reducible assumption) (by (first | omega | (simp; done) | (simp; omega)))))))
      have BX : Blk (wr.alloc (.cells #[.string p.Name, .slice Ar p.Rules.length cr] 55)).drew wr.heap.size 55 #[.string p.Name, .slice Ar p.Rules.length cr] := BP.drew
      have BKX : Blk (wr.alloc (.cells #[.string p.Name, .slice Ar p.Rules.length cr] 55)).drew w.heap.size 48 #[.int .i64 t.Id, .int .i64 t.Parent, .slice An t.Names.length cn, .int .i64 t.Made, .int .i64 t.Ends, .int .i64 t.Limit, .int .i64 t.Uses] := BKW.drew
      have hcx := BX.cell
      have hrX : Reads (wr.alloc (.cells #[.string p.Name, .slice Ar p.Rules.length cr] 55)).drew ((wr.alloc (.cells #[.string p.Name, .slice Ar p.Rules.length cr] 55)).drew).heap.size Ar (p.Rules.flatMap Rule.cells) := (hrr.below (hbX.mono hzr') (Nat.le_refl _)).more (by simp; omega)
      have hro : World.ownsRow (wr.alloc (.cells #[.string p.Name, .slice Ar p.Rules.length cr] 55)).drew (w.heap.size + 1) 55 2 (.slice A1 ls.length c1) ls.length cf := own_below hrow hbX
      have hzX : wr.heap.size + 1 ≤ ((wr.alloc (.cells #[.string p.Name, .slice Ar p.Rules.length cr] 55)).drew).heap.size := by simp
      go_region_law (first | (go_loud (refine step_append_lies _ (by rfl) _ _ _ (by rfl) (w.heap.size + 1) 55 i0 _ 2 40 Tryd.underlying28 hi0 hz0 hz1 hz2 rfl (by omega) (.slice A1 ls.length c1) ls.length cf (by rfl) ((own_below hro hb2).alloc _) ⟨w2.heap.size, 0, none⟩ 1 1 [.string p.Name, .slice D p.Rules.length d] (by rfl) (by rfl) (World.news_of_block (cs := #[.string p.Name, .slice D p.Rules.length d]) (t := 55) (fr := (0, 0)) (heap_alloc_new w2 _)) (by simp [Value.oneCell']) (by omega) (by simp only [maxLen]; omega) (by omega) (by simp; omega) (w2.heap.size + 1) (by simp) ?_; intro gg cap w3 hown1 hgrow hat hlt1)) | (go_simp; go_at_call 46; refine (slices_Clone_Rule Ar cr p.Rules _ hrX (by omega)).mono ?_; rintro e w2 ⟨D, d, rfl, ho, hb2⟩; have hsz2 := hb2.size; have BX2 := BX.keep hb2; have hcx2 := BX2.cell))
      all_goals
        go_wp2
        go_roundw
        case rel =>
          have hbA : Below wr.heap.size wr (w2.alloc (.cells #[.string p.Name, .slice D p.Rules.length d] 55)) := Below.alloc (hbX.trans (hb2.mono (by omega))) (by omega) _
          have hoP : PolicyR.Own w2 (InR ((wr.alloc (.cells #[.string p.Name, .slice Ar p.Rules.length cr] 55)).drew).heap.size w2.heap.size) [.string p.Name, .slice D p.Rules.length d] p := of_own_Policy (of_own_RuleS ho rfl HRs.out) (fun _ h => h) hps
          have hoA := PolicyR.own_keep hoP ((Below.refl _ w2).alloc (Nat.le_refl _) (.cells #[.string p.Name, .slice D p.Rules.length d] 55))
          have hG := Grow.snoc HG0.out hbA hoA (by omega) (by simp) (by omega) (by rw [HCf.out]; exact hown1) hgrow (hat.imp_right (fun h => by simpa using h))
          have hz3 := hgrow.size
          have hrowlt : ∀ q, (Value.slice A1 ls.length c1).ownBlock = some q → w.heap.size + 1 ≤ q := fun q e => (hrow.lt q e).1
          have hbw : Below w.heap.size w (w2.alloc (.cells #[.string p.Name, .slice D p.Rules.length d] 55)) := hb.trans (hbA.mono (by omega))
          refine ⟨k + 1, some ⟨gg, 0, none⟩, cap, _, ls ++ [p], by omega, by go_num, by simp, by simp; omega, ?_, ?_, ?_, Lib.hid (by rw [List.length_append]; exact hG), Lib.hid (by rw [HW.out, HL.out])⟩
          · exact Below.grown hbw hgrow (by simp; omega) (fun q e => by have := hrowlt q e; omega)
          · simp at hz3 ⊢; omega
          · exact ((BKX.keep hb2).alloc _).grown hgrow (hne _ (by omega))
        case measure => simp [intOf]; omega
    · obtain rfl : k = n := by omega
      have HP : Hid (powL t ps = ls) := Lib.hid (by rw [HL.out, List.take_of_length_le (by rw [Hn.out]; exact Nat.le_refl _)])
      go_wp2
      go_ret
      rw [HP.out]
      exact ⟨A1, c1, css, rfl, HG0.out.base (by omega), by (repeat (first | (with_reducible exact Below.refl _ _) | (with_reducible assumption) | ((with_reducible refine Below.setCell ?_ ?_ _); rotate_left; focus (first | omega | (simp; done) | (simp; omega))) | ((with_reducible refine Below.alloc ?_ ?_ _); rotate_left; focus (first | omega | (simp; done) | (simp; omega))) | (with_reducible refine Below.drew ?_) | (with_reducible refine below_drewN ?_ _) | (refine Below.trans ?_ (Below.mono (by with_reducible assumption) (by (first | omega | (simp; done) | (simp; omega)))))))⟩
end Go.Proofs.YtoijmnnjcoogkaaDoor
namespace Go.Proofs.YtoijmnnjcoogkaaDoor
open Go.RowKit
set_option maxHeartbeats 6400000 in
theorem impl_PowersOfL (cs : List Value) (f : Forest) (id : Int) (v : Value) (ps : List Policy) (w : World) (h : ForestR.Rd w w.heap.size cs f) (hp : SlRd PolicyR w w.heap.size v ps) (hm : ForestR.sz f ≤ 1048576) (hmp : szList PolicyR ps ≤ 1048576) (hml : MaxLenInt w) :
    Calls Tryd.prog 9 #[.agg cs.toArray, .int .i64 id, v] w fun e w' => ∃ v', e = .returned (.tuple #[v', .bool (powB f.Tokens id ps)]) ∧ SlOwn PolicyR 55 w' (InR w.heap.size w'.heap.size) v' (powR f.Tokens id ps) ∧ Below w.heap.size w w' := by
  obtain ⟨v0, rfl, q0⟩ := rd_Forest (_root_.id h)
  obtain ⟨A0, c0, rfl⟩ := q0.form
  obtain ⟨A2, c2, rfl⟩ := hp.form
  have HAt := Lib.hid (fun (i : Int) (w' : World) (h : ForestR.Rd w' w'.heap.size [.slice A0 f.Tokens.length c0] f) => impl_tokenIndexL _ f i w' h hm)
  have HOk := Lib.hid (fun (w' : World) (h : ForestR.Rd w' w'.heap.size [.slice A0 f.Tokens.length c0] f) => impl_isForestL _ f w' h hm)
  have HR := Lib.hid (fun (w' : World) (hb : Below w.heap.size w w') (hz : w.heap.size ≤ w'.heap.size) => ForestR.rd_keep h hb hz)
  have HRs := Lib.hid (fun (w' : World) (hb : Below w.heap.size w w') => q0.below hb (Nat.le_refl _))
  have HAr := Lib.hid (fun (w' : World) (hb : Below w.heap.size w w') => impl_arePolicies A2 c2 ps w' (hp.keep hb hb.size) hmp (hml.keep hb))
  have HPw := Lib.hid (fun (t : Token) (An : Option Addr) (cn : Nat) (w' : World) (hb : Below w.heap.size w w') (hn : Reads w' w'.heap.size An (t.Names.map strV)) (hnl : t.Names.length ≤ 1048576) => impl_powersOf t An cn A2 c2 ps w' hn hnl (hp.keep hb hb.size) hmp)
  rw [sz_Forest] at hm
  have hml2 : f.Tokens.length ≤ 1048576 := Nat.le_trans (Nat.le_add_right _ _) hm
  have HNm := Lib.hid (fun k t (h : f.Tokens[k]? = some t) => names_small hm h)
  have hpl : ps.length ≤ 1048576 := Nat.le_trans (Nat.le_add_right _ _) hmp
  clear h q0 hp hmp
  generalize hT : f.Tokens = ts at *
  generalize hn : ts.length = n at *
  have Hn := Lib.hid hn
  clear hn hm hT
  generalize ps.length = m at *
  go_enter Tryd.func9, Tryd.ntmps9
  go_wp2_with fail
  refine (HAt.out _ _ (HR.out _ (by (repeat (first | (with_reducible exact Below.refl _ _) | (with_reducible assumption) | ((with_reducible refine Below.setCell ?_ ?_ _); rotate_left; focus (first | omega | (simp; done) | (simp; omega))) | ((with_reducible refine Below.alloc ?_ ?_ _); rotate_left; focus (first | omega | (simp; done) | (simp; omega))) | (with_reducible refine Below.drew ?_) | (with_reducible refine below_drewN ?_ _) | (refine Below.trans ?_ (Below.mono (by with_reducible assumption) (by (first | omega | (simp; done) | (simp; omega)))))))) (by first | omega | (simp; done) | (simp; omega)))).mono ?_
  rintro e w1 ⟨rfl, hb1⟩
  have hz1 := hb1.size; try simp at hz1
  have BK0 : Blk w1 w.heap.size 33 #[.slice A0 n c0] := by (repeat (first | (with_reducible assumption) | ((with_reducible refine Blk.new' ?_); focus (simp; done)) | (with_reducible refine Blk.alloc ?_ _) | (with_reducible refine Blk.drew ?_) | (with_reducible refine Blk.drewN ?_ _) | ((with_reducible refine Blk.far ?_ ?_ _); rotate_left; focus (first | omega | (simp; done) | (simp; omega))) | (refine Blk.keep ?_ (by with_reducible assumption)) | (refine Blk.below ?_ (by with_reducible assumption) (by (first | omega | (simp; done) | (simp; omega))))))
  have hc0 := BK0.cell
  go_wp2_with fail
  refine (HOk.out _ (HR.out _ (by (repeat (first | (with_reducible exact Below.refl _ _) | (with_reducible assumption) | ((with_reducible refine Below.setCell ?_ ?_ _); rotate_left; focus (first | omega | (simp; done) | (simp; omega))) | ((with_reducible refine Below.alloc ?_ ?_ _); rotate_left; focus (first | omega | (simp; done) | (simp; omega))) | (with_reducible refine Below.drew ?_) | (with_reducible refine below_drewN ?_ _) | (refine Below.trans ?_ (Below.mono (by with_reducible assumption) (by (first | omega | (simp; done) | (simp; omega)))))))) (by first | omega | (simp; done) | (simp; omega)))).mono ?_
  rintro e w2 ⟨rfl, hb2⟩
  have hz2 := hb2.size; try simp at hz2
  replace BK0 : Blk w2 w.heap.size 33 #[.slice A0 n c0] := by (repeat (first | (with_reducible assumption) | ((with_reducible refine Blk.new' ?_); focus (simp; done)) | (with_reducible refine Blk.alloc ?_ _) | (with_reducible refine Blk.drew ?_) | (with_reducible refine Blk.drewN ?_ _) | ((with_reducible refine Blk.far ?_ ?_ _); rotate_left; focus (first | omega | (simp; done) | (simp; omega))) | (refine Blk.keep ?_ (by with_reducible assumption)) | (refine Blk.below ?_ (by with_reducible assumption) (by (first | omega | (simp; done) | (simp; omega))))))
  replace hc0 := BK0.cell
  cases hok : forestOk ts
  · have HD := Lib.hid (powB_find (ps := ps) (findOk_bad (id := id) hok))
    clear hok
    go_wp2
    refine bodyPost_ret (v := .tuple #[.slice none 0 0, .bool false]) (by simp [results, Tryd.results9, go_sem]) rfl ⟨_, by rw [HD.out.1], by rw [HD.out.2]; exact SlOwn.nil _ _ _ _, by (repeat (first | (with_reducible exact Below.refl _ _) | (with_reducible assumption) | ((with_reducible refine Below.setCell ?_ ?_ _); rotate_left; focus (first | omega | (simp; done) | (simp; omega))) | ((with_reducible refine Below.alloc ?_ ?_ _); rotate_left; focus (first | omega | (simp; done) | (simp; omega))) | (with_reducible refine Below.drew ?_) | (with_reducible refine below_drewN ?_ _) | (refine Below.trans ?_ (Below.mono (by with_reducible assumption) (by (first | omega | (simp; done) | (simp; omega)))))))⟩
  have HOK := Lib.hid hok
  clear hok
  by_cases hx : idxT ts id < 0
  · have HD := Lib.hid (powB_find (ps := ps) (findOk_none hx))
    go_wp2
    refine bodyPost_ret (v := .tuple #[.slice none 0 0, .bool false]) (by simp [results, Tryd.results9, go_sem]) rfl ⟨_, by rw [HD.out.1], by rw [HD.out.2]; exact SlOwn.nil _ _ _ _, by (repeat (first | (with_reducible exact Below.refl _ _) | (with_reducible assumption) | ((with_reducible refine Below.setCell ?_ ?_ _); rotate_left; focus (first | omega | (simp; done) | (simp; omega))) | ((with_reducible refine Below.alloc ?_ ?_ _); rotate_left; focus (first | omega | (simp; done) | (simp; omega))) | (with_reducible refine Below.drew ?_) | (with_reducible refine below_drewN ?_ _) | (refine Below.trans ?_ (Below.mono (by with_reducible assumption) (by (first | omega | (simp; done) | (simp; omega)))))))⟩
  obtain ⟨i, t, e1, e2, e3⟩ := tok_at (Int.not_lt.1 hx)
  have HF := Lib.hid (findOk_at HOK.out e1)
  have HFt := Lib.hid (findTok_at HOK.out e1 e2)
  have hi := idxT_small e1
  rw [Hn.out] at hi
  have hnl := HNm.out _ _ e2
  rw [e1] at hx ⊢
  have HG := Lib.hid e2
  clear e1 e2 e3
  have hd : decide ((i : Int) < 0) = false := by simp
  go_wp2_with fail
  refine (HAr.out _ (by (repeat (first | (with_reducible exact Below.refl _ _) | (with_reducible assumption) | ((with_reducible refine Below.setCell ?_ ?_ _); rotate_left; focus (first | omega | (simp; done) | (simp; omega))) | ((with_reducible refine Below.alloc ?_ ?_ _); rotate_left; focus (first | omega | (simp; done) | (simp; omega))) | (with_reducible refine Below.drew ?_) | (with_reducible refine below_drewN ?_ _) | (refine Below.trans ?_ (Below.mono (by with_reducible assumption) (by (first | omega | (simp; done) | (simp; omega))))))))).mono ?_
  rintro e w3 ⟨rfl, hb3⟩
  have hz3 := hb3.size; try simp at hz3
  replace BK0 : Blk w3 w.heap.size 33 #[.slice A0 n c0] := by (repeat (first | (with_reducible assumption) | ((with_reducible refine Blk.new' ?_); focus (simp; done)) | (with_reducible refine Blk.alloc ?_ _) | (with_reducible refine Blk.drew ?_) | (with_reducible refine Blk.drewN ?_ _) | ((with_reducible refine Blk.far ?_ ?_ _); rotate_left; focus (first | omega | (simp; done) | (simp; omega))) | (refine Blk.keep ?_ (by with_reducible assumption)) | (refine Blk.below ?_ (by with_reducible assumption) (by (first | omega | (simp; done) | (simp; omega))))))
  replace hc0 := BK0.cell
  cases hok : polsOk ps
  · have HD := Lib.hid (powB_pols (ts := ts) (id := id) hok)
    clear hok
    go_wp2
    refine bodyPost_ret (v := .tuple #[.slice none 0 0, .bool false]) (by simp [results, Tryd.results9, go_sem]) rfl ⟨_, by rw [HD.out.1], by rw [HD.out.2]; exact SlOwn.nil _ _ _ _, by (repeat (first | (with_reducible exact Below.refl _ _) | (with_reducible assumption) | ((with_reducible refine Below.setCell ?_ ?_ _); rotate_left; focus (first | omega | (simp; done) | (simp; omega))) | ((with_reducible refine Below.alloc ?_ ?_ _); rotate_left; focus (first | omega | (simp; done) | (simp; omega))) | (with_reducible refine Below.drew ?_) | (with_reducible refine below_drewN ?_ _) | (refine Below.trans ?_ (Below.mono (by with_reducible assumption) (by (first | omega | (simp; done) | (simp; omega)))))))⟩
  have HD := Lib.hid (powB_yes HF.out hok)
  clear hok
  have hbw : Below w.heap.size w w3 := by (repeat (first | (with_reducible exact Below.refl _ _) | (with_reducible assumption) | ((with_reducible refine Below.setCell ?_ ?_ _); rotate_left; focus (first | omega | (simp; done) | (simp; omega))) | ((with_reducible refine Below.alloc ?_ ?_ _); rotate_left; focus (first | omega | (simp; done) | (simp; omega))) | (with_reducible refine Below.drew ?_) | (with_reducible refine below_drewN ?_ _) | (refine Below.trans ?_ (Below.mono (by with_reducible assumption) (by (first | omega | (simp; done) | (simp; omega)))))))
  obtain ⟨b, off, An, cn, rfl, hab, hnm, hq0, hq1, hq2, hq3, hq4, hq5, hq6⟩ := tok_elem (HRs.out w3 hbw) HG.out
  obtain ⟨-, hnr, -, -, -⟩ := rd_StringS hnm
  clear hnm
  go_wp2_with fail
  refine (HPw.out t An cn _ hbw (hnr.more hbw.size) hnl).mono ?_
  rintro e w4 ⟨A4, c4, css, rfl, G4, hb4⟩
  go_wp2
  refine bodyPost_ret (v := .tuple #[.slice A4 (powL t ps).length c4, .bool true]) (by simp [results, Tryd.results9, go_sem]) rfl ⟨_, by rw [HD.out.1], by rw [HD.out.2, HFt.out]; exact (G4.sl (by decide)).wide (inR_mono hbw.size (Nat.le_refl _)), hbw.trans (hb4.mono hbw.size)⟩
end Go.Proofs.YtoijmnnjcoogkaaDoor
namespace Go.Proofs.YtoijmnnjcoogkaaDoor
open Go.RowKit
set_option maxHeartbeats 6400000 in
theorem spec_PowersOfL (cs : List Value) (f : Forest) (id : Int) (v : Value) (ps : List Policy) (w : World) (h : ForestR.Rd w w.heap.size cs f) (hp : SlRd PolicyR w w.heap.size v ps) (hm : ForestR.sz f ≤ 1048576) (hmp : szList PolicyR ps ≤ 1048576) :
    Calls Tryd.prog 6 #[.agg cs.toArray, .int .i64 id, v] w fun e w' => ∃ v', e = .returned (.tuple #[v', .bool (powB f.Tokens id ps)]) ∧ SlOwn PolicyR 55 w' (InR w.heap.size w'.heap.size) v' (powR f.Tokens id ps) ∧ Below w.heap.size w w' := by
  obtain ⟨v0, rfl, q0⟩ := rd_Forest (_root_.id h)
  obtain ⟨A0, c0, rfl⟩ := q0.form
  obtain ⟨A, c, rfl⟩ := hp.form
  obtain ⟨i0, hi0, hI0, hI1, hI2⟩ := info_parts info_Policy
  have HF := Lib.hid (fun (w' : World) (h : ForestR.Rd w' w'.heap.size [.slice A0 f.Tokens.length c0] f) => spec_FindTokenL _ f id w' h hm)
  have HR := Lib.hid (fun (w' : World) (hb : Below w.heap.size w w') (hz : w.heap.size ≤ w'.heap.size) => ForestR.rd_keep h hb hz)
  have HPl := Lib.hid (fun (w' : World) (hb : Below w.heap.size w w') => spec_l08Policies A c ps w' (hp.keep hb hb.size) hmp)
  have HSm := Lib.hid (fun (k : Nat) (p : Policy) (h : ps[k]? = some p) => Nat.le_trans (szList_one (R := PolicyR) h) hmp)
  have hpl : ps.length ≤ 1048576 := Nat.le_trans (Nat.le_add_right _ _) hmp
  have hr := hp
  rw [sz_Forest] at hm
  have hnl : (findTok f.Tokens id).Names.length ≤ 1048576 := by have h1 := findTok_sz f.Tokens id; rw [sz_Token] at h1; unfold szList at h1 hm; omega
  clear h q0 hp hmp hm
  generalize hT : f.Tokens = ts at *
  clear hT
  generalize ts.length = n0 at *
  generalize hn : ps.length = n at *
  have Hn := Lib.hid hn
  clear hn
  generalize ht : findTok ts id = t at *
  have Ht := Lib.hid ht
  clear ht
  go_enter Tryd.func6, Tryd.ntmps6
  have hlit : World.ownsRow _ _ 55 2 _ _ _ := World.ownsRow_lit (size := 2) (w.alloc (.cells #[.slice A0 n0 c0] 33)) #[] 0 (Nat.le_refl _) (by simp [maxLen]) rfl
  go_wp2_with fail
  refine (HF.out _ (HR.out _ (by (repeat (first | (with_reducible exact Below.refl _ _) | (with_reducible assumption) | ((with_reducible refine Below.setCell ?_ ?_ _); rotate_left; focus (first | omega | (simp; done) | (simp; omega))) | ((with_reducible refine Below.alloc ?_ ?_ _); rotate_left; focus (first | omega | (simp; done) | (simp; omega))) | (with_reducible refine Below.drew ?_) | (with_reducible refine below_drewN ?_ _) | (refine Below.trans ?_ (Below.mono (by with_reducible assumption) (by (first | omega | (simp; done) | (simp; omega)))))))) (by first | omega | (simp; done) | (simp; omega)))).mono ?_
  rintro e w1 ⟨_, rfl, hot, hb1⟩
  have hl1 := own_below hlit hb1
  have hz1 := hb1.size; try simp at hz1
  obtain ⟨vn, Sn, rfl, qn, sn⟩ := own_Token hot
  obtain ⟨Dn, dn, rfl⟩ := qn.form
  cases hfo : findOk ts id
  · have HD := Lib.hid (powB_find (ps := ps) hfo)
    clear hfo
    go_wp2
    refine bodyPost_ret (v := .tuple #[.slice none 0 0, .bool false]) (by simp [results, Tryd.results6, go_sem]) rfl ⟨_, by rw [HD.out.1], by rw [HD.out.2]; exact SlOwn.nil _ _ _ _, by (repeat (first | (with_reducible exact Below.refl _ _) | (with_reducible assumption) | ((with_reducible refine Below.setCell ?_ ?_ _); rotate_left; focus (first | omega | (simp; done) | (simp; omega))) | ((with_reducible refine Below.alloc ?_ ?_ _); rotate_left; focus (first | omega | (simp; done) | (simp; omega))) | (with_reducible refine Below.drew ?_) | (with_reducible refine below_drewN ?_ _) | (refine Below.trans ?_ (Below.mono (by with_reducible assumption) (by (first | omega | (simp; done) | (simp; omega)))))))⟩
  have HFo := Lib.hid hfo
  clear hfo
  go_wp2_with fail
  refine (HPl.out _ (by (repeat (first | (with_reducible exact Below.refl _ _) | (with_reducible assumption) | ((with_reducible refine Below.setCell ?_ ?_ _); rotate_left; focus (first | omega | (simp; done) | (simp; omega))) | ((with_reducible refine Below.alloc ?_ ?_ _); rotate_left; focus (first | omega | (simp; done) | (simp; omega))) | (with_reducible refine Below.drew ?_) | (with_reducible refine below_drewN ?_ _) | (refine Below.trans ?_ (Below.mono (by with_reducible assumption) (by (first | omega | (simp; done) | (simp; omega))))))))).mono ?_
  rintro e w2 ⟨rfl, hb2⟩
  have hz2 := hb2.size; try simp at hz2
  have BT0 : Blk w2 w1.heap.size 48 #[.int .i64 t.Id, .int .i64 t.Parent, .slice Dn t.Names.length dn, .int .i64 t.Made, .int .i64 t.Ends, .int .i64 t.Limit, .int .i64 t.Uses] := by (repeat (first | (with_reducible assumption) | ((with_reducible refine Blk.new' ?_); focus (simp; done)) | (with_reducible refine Blk.alloc ?_ _) | (with_reducible refine Blk.drew ?_) | (with_reducible refine Blk.drewN ?_ _) | ((with_reducible refine Blk.far ?_ ?_ _); rotate_left; focus (first | omega | (simp; done) | (simp; omega))) | (refine Blk.keep ?_ (by with_reducible assumption)) | (refine Blk.below ?_ (by with_reducible assumption) (by (first | omega | (simp; done) | (simp; omega))))))
  have hb12 : Below w1.heap.size w1 w2 := by (repeat (first | (with_reducible exact Below.refl _ _) | (with_reducible assumption) | ((with_reducible refine Below.setCell ?_ ?_ _); rotate_left; focus (first | omega | (simp; done) | (simp; omega))) | ((with_reducible refine Below.alloc ?_ ?_ _); rotate_left; focus (first | omega | (simp; done) | (simp; omega))) | (with_reducible refine Below.drew ?_) | (with_reducible refine below_drewN ?_ _) | (refine Below.trans ?_ (Below.mono (by with_reducible assumption) (by (first | omega | (simp; done) | (simp; omega)))))))
  cases hok : polsOk ps
  · have HD := Lib.hid (powB_pols (ts := ts) (id := id) hok)
    clear hok
    go_wp2
    refine bodyPost_ret (v := .tuple #[.slice none 0 0, .bool false]) (by simp [results, Tryd.results6, go_sem]) rfl ⟨_, by rw [HD.out.1], by rw [HD.out.2]; exact SlOwn.nil _ _ _ _, by (repeat (first | (with_reducible exact Below.refl _ _) | (with_reducible assumption) | ((with_reducible refine Below.setCell ?_ ?_ _); rotate_left; focus (first | omega | (simp; done) | (simp; omega))) | ((with_reducible refine Below.alloc ?_ ?_ _); rotate_left; focus (first | omega | (simp; done) | (simp; omega))) | (with_reducible refine Below.drew ?_) | (with_reducible refine below_drewN ?_ _) | (refine Below.trans ?_ (Below.mono (by with_reducible assumption) (by (first | omega | (simp; done) | (simp; omega)))))))⟩
  have HD := Lib.hid (powB_yes HFo.out hok)
  clear hok
  have hl2 := own_below hl1 hb12
  have HN := Lib.hid (fun (w' : World) (ho : Out (fun g => g = w.heap.size + 1 ∨ w2.heap.size ≤ g) w2 w') => (rd_StringS (((qn.keep hb12).out ho (fun g hg hT => by have h1 := sn g hg; have h2 := h1.1; have h3 := h1.2; rcases hT with hT | hT <;> (first | omega | (simp at h2; omega)))).rd (B := w'.heap.size) (fun g hg => by have h1 := (sn g hg).2; have h2 := ho.size; omega))).2.1)
  have hbw2 : Below w.heap.size w w2 := by (repeat (first | (with_reducible exact Below.refl _ _) | (with_reducible assumption) | ((with_reducible refine Below.setCell ?_ ?_ _); rotate_left; focus (first | omega | (simp; done) | (simp; omega))) | ((with_reducible refine Below.alloc ?_ ?_ _); rotate_left; focus (first | omega | (simp; done) | (simp; omega))) | (with_reducible refine Below.drew ?_) | (with_reducible refine below_drewN ?_ _) | (refine Below.trans ?_ (Below.mono (by with_reducible assumption) (by (first | omega | (simp; done) | (simp; omega)))))))
  clear hot qn sn hlit hl1 hb1
  go_wp2
  go_loopw [8, 11] (fun sl i wr => ∃ (k : Nat) (A1 : Option Addr) (c1 : Nat) (css : List (List Value)) (ls : List Policy), k ≤ n ∧ i = .int .i64 k ∧ sl = .slice A1 ls.length c1 ∧ ls.length ≤ k ∧ Below w.heap.size w wr ∧ w2.heap.size ≤ wr.heap.size ∧ Out (fun g => g = w.heap.size + 1 ∨ w2.heap.size ≤ g) w2 wr ∧ Hid (Grow PolicyR 55 wr (w.heap.size + 1) A1 ls.length c1 css ls) ∧ Hid (∀ g, (Value.slice A1 ls.length c1).ownBlock = some g → g = w.heap.size + 1 ∨ w2.heap.size ≤ g) ∧ Hid (ls = powL t (ps.take k))) (fun _ i _ => n - (intOf i).toNat)
  case atStart => exact ⟨0, some ⟨w.heap.size + 1, 0, none⟩, 0, [], [], Nat.zero_le _, rfl, rfl, Nat.zero_le _, by (repeat (first | (with_reducible exact Below.refl _ _) | (with_reducible assumption) | ((with_reducible refine Below.setCell ?_ ?_ _); rotate_left; focus (first | omega | (simp; done) | (simp; omega))) | ((with_reducible refine Below.alloc ?_ ?_ _); rotate_left; focus (first | omega | (simp; done) | (simp; omega))) | (with_reducible refine Below.drew ?_) | (with_reducible refine below_drewN ?_ _) | (refine Below.trans ?_ (Below.mono (by with_reducible assumption) (by (first | omega | (simp; done) | (simp; omega))))))), Nat.le_refl _, Out.refl _ _, Lib.hid ⟨by have h := hl2; simp at h; exact h, ⟨[], Built.nil _ _ _, by simp⟩, rfl⟩, Lib.hid (fun g hg => .inl (by simpa [Value.ownBlock] using hg.symm)), Lib.hid rfl⟩
  case round =>
    clear hbw2 hb12 hb2 hl2
    obtain ⟨k, A1, c1, css, ls, hk, rfl, rfl, hls, hb, hzr, hO, HG0, HB, HL⟩ := hrel
    have BTr := BT0.out hO (by omega)
    have hct := BTr.cell
    by_cases hlt : k < n
    · have hlx : k < ps.length := by rw [Hn.out]; exact hlt
      have HG := Lib.hid (List.getElem?_eq_getElem hlx)
      generalize ps[k]'hlx = p at HG
      clear hlx
      have hzr' := hb.size
      obtain ⟨b, off, Ar, cr, rfl, hab, hps, hru, hq0, hq1⟩ := pol_elem (hr.below hb (Nat.le_refl _)) HG.out
      have hsm := HSm.out k p HG.out
      rw [sz_Policy] at hsm
      have hrl : p.Rules.length ≤ 1048576 := by unfold szList at hsm; omega
      clear hsm
      obtain ⟨hrr, hrs⟩ := reads_RuleS hru
      have HRs := Lib.hid hrs
      clear hrs
      have hzr2 := hb.size
      have q0 := later_cell hq0
      have q1 := BTr.later
      cases hx : hasPol t p
      all_goals
        have hh := hx
        unfold hasPol at hh
      · have HW := Lib.hid (powL_snoc_no HG.out hx)
        have HV : Hid (∀ n' : Lt wr, Calls Tryd.prog 19 #[.slice Dn t.Names.length dn, .string p.Name] (later _ n') fun e w' => e = .returned (.bool false) ∧ (later _ n') = w') := Lib.hid (fun n' => hh ▸ spec_l08HasText Dn dn t.Names p.Name (later _ n') ((HN.out wr hO).keep (later_below _ n') (later_below _ n').size) (by omega))
        clear hx hh
        go_wp2_with fail
        refine wp_region_later (by kernel_rfl) (by kernel_rfl) ?_
        repeat (first | go_big_quiet_step ((go_at_call 19; exact Calls.later_same (HV.out _))) | quiet_step ((go_at_call 19; exact Calls.later_same (HV.out _))))
        refine wpQuiet_nil ?_
        intro w3 hb3
        go_wp2
        go_roundw
        case rel => exact ⟨k + 1, A1, c1, css, ls, by omega, by go_num, rfl, by omega, by (repeat (first | (with_reducible exact Below.refl _ _) | (with_reducible assumption) | ((with_reducible refine Below.setCell ?_ ?_ _); rotate_left; focus (first | omega | (simp; done) | (simp; omega))) | ((with_reducible refine Below.alloc ?_ ?_ _); rotate_left; focus (first | omega | (simp; done) | (simp; omega))) | (with_reducible refine Below.drew ?_) | (with_reducible refine below_drewN ?_ _) | (refine Below.trans ?_ (Below.mono (by with_reducible assumption) (by (first | omega | (simp; done) | (simp; omega))))))), by have := hb3.size; omega, hO.trans (Out.of_below hb3), Lib.hid (HG0.out.keep hb3), HB, Lib.hid (by rw [HW.out]; exact HL.out)⟩
        case measure => simp [intOf]; omega
      have HW := Lib.hid (powL_snoc_yes HG.out hx)
      have HV : Hid (∀ n' : Lt wr, Calls Tryd.prog 19 #[.slice Dn t.Names.length dn, .string p.Name] (later _ n') fun e w' => e = .returned (.bool true) ∧ (later _ n') = w') := Lib.hid (fun n' => hh ▸ spec_l08HasText Dn dn t.Names p.Name (later _ n') ((HN.out wr hO).keep (later_below _ n') (later_below _ n').size) (by omega))
      clear hx hh
      go_wp2_with fail
      refine wp_region_later (by kernel_rfl) (by kernel_rfl) ?_
      repeat (first | go_big_quiet_step ((go_at_call 19; exact Calls.later_same (HV.out _))) | quiet_step ((go_at_call 19; exact Calls.later_same (HV.out _))))
      refine wpQuiet_nil ?_
      intro w3 hb3
      clear q0 q1
      have hz3 := hb3.size
      have G3 := HG0.out.keep hb3
      have hrow : w3.ownsRow (w.heap.size + 1) 55 2 (.slice A1 ls.length c1) ls.length css.flatten := G3.row
      replace G3 := Lib.hid G3
      generalize hcf : css.flatten = cf at hrow
      have HCf := Lib.hid hcf
      clear hcf
      have hb03 : Below w.heap.size w w3 := hb.trans (hb3.mono hzr2)
      replace hq0 := (hb3.cell (p := ⟨b, off + k * 2, none⟩) (by show b < _; omega)).trans hq0
      replace hq1 := (hb3.cell (p := ⟨b, off + k * 2 + 1, none⟩) (by show b < _; omega)).trans hq1
      go_wp2_with fail
      refine (spec_l08CopyPolicy p.Name Ar cr p.Rules _ ((hru.below (hb3.mono hzr2) (Nat.le_refl _)).more (by omega)) (by omega)).mono ?_
      rintro e w4 ⟨D, d, rfl, ho, hb4⟩
      have hz4 := hb4.size
      have hro := own_below hrow hb4
      go_wp2_with (first | (at_builtin; go_loud (refine wpList_append_own_at _ rfl _ _ 28 rfl (w.heap.size + 1) 55 i0 _ 2 40 Tryd.underlying28 hi0 hI0 hI1 hI2 rfl (by decide) _ _ _ rfl (hro.alloc _) ⟨w4.heap.size, 0, none⟩ 1 1 [.string p.Name, .slice D p.Rules.length d] rfl rfl ?c1 ?c2 ?c3 ?c4 ?c5 ?_; (case c1 => exact (World.news_of_block (cs := #[.string p.Name, .slice D p.Rules.length d]) (t := 55) (fr := (0, 0)) (heap_alloc_new _ _))); (case c2 => simp [Value.oneCell']); (case c3 => (simp only [maxLen]; omega)); (case c4 => omega); (case c5 => (simp; omega)); intro v' wA hown1 hgrow hnil hat; obtain ⟨gg, cap, rfl, hg1, hg2⟩ := hown1.form (by omega); skip)))
      go_roundw
      case rel =>
        have hbA : Below wr.heap.size wr (w4.alloc (.cells #[.string p.Name, .slice D p.Rules.length d] 55)) := Below.alloc (hb3.trans (hb4.mono hz3)) (by omega) _
        have hbA3 : Below w3.heap.size w3 (w4.alloc (.cells #[.string p.Name, .slice D p.Rules.length d] 55)) := Below.alloc hb4 hz4 _
        have hoP : PolicyR.Own w4 (InR w3.heap.size w4.heap.size) [.string p.Name, .slice D p.Rules.length d] p := of_own_Policy (of_own_RuleS ho rfl HRs.out) (fun _ h => h) hps
        have hoA := PolicyR.own_keep hoP ((Below.refl _ w4).alloc (Nat.le_refl _) (.cells #[.string p.Name, .slice D p.Rules.length d] 55))
        have hG := Grow.snoc HG0.out hbA hoA hz3 (by simp) (by omega) (by rw [HCf.out]; exact hown1) hgrow (hat.elim (fun h => .inl h.symm) (fun h => .inr (by simpa [Value.ownBlock] using h)))
        have hz5 := hgrow.size
        have hrowlt : ∀ q, (Value.slice A1 ls.length c1).ownBlock = some q → w.heap.size + 1 ≤ q := fun q e => (hrow.lt q e).1
        have hO4 : Out (fun g => g = w.heap.size + 1 ∨ w2.heap.size ≤ g) w2 (w4.alloc (.cells #[.string p.Name, .slice D p.Rules.length d] 55)) := hO.trans (Out.of_below hbA)
        refine ⟨k + 1, some ⟨gg, 0, none⟩, cap, _, ls ++ [p], by omega, by go_num, by simp, by simp; omega, ?_, ?_, ?_, Lib.hid (by rw [List.length_append]; exact hG), Lib.hid ?_, Lib.hid (by rw [HW.out, HL.out])⟩
        · exact Below.grown (hb03.trans (hbA3.mono (by omega))) hgrow (by simp; omega) (fun q e => by have := hrowlt q e; omega)
        · simp at hz5; omega
        · exact hO4.trans ((out_of_grown hgrow).wide (fun g hg => HB.out g hg))
        · intro g hg
          have h7 : gg = g := by simpa [Value.ownBlock] using hg
          rcases hat with h6 | h6
          · exact HB.out g (h6.symm.trans (by simpa [Value.ownBlock] using h7))
          · right; have h8 : gg = w4.heap.size + 1 := by simpa [Value.ownBlock] using h6
            omega
      case measure => simp [intOf]; omega
    · obtain rfl : k = n := by omega
      have HP : Hid (powL t ps = ls) := Lib.hid (by rw [HL.out, List.take_of_length_le (by rw [Hn.out]; exact Nat.le_refl _)])
      go_wp2
      refine bodyPost_ret (v := .tuple #[.slice A1 ls.length c1, .bool true]) (by simp [results, Tryd.results6, go_sem]) rfl ⟨_, by rw [HD.out.1], by rw [HD.out.2, Ht.out, HP.out]; exact (HG0.out.sl (by decide)).wide (inR_mono (by omega) (Nat.le_refl _)), hb⟩
end Go.Proofs.YtoijmnnjcoogkaaDoor

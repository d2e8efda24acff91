/- FnSweep: the walk of the law. -/
import Derived.Test.YtcfhnhhgnophhaaPureSweep
import Derived.Test.YtcfhnhhgnophhaaPkForest
import Derived.Test.YtcfhnhhgnophhaaAtLib
import Derived.Test.YtcfhnhhgnophhaaByteS2
import Derived.Test.YtcfhnhhgnophhaaWithin
import Derived.Test.YtcfhnhhgnophhaaFindS
import Derived.Test.YtcfhnhhgnophhaaForestL
set_option linter.unusedSimpArgs false
set_option linter.unusedVariables false
set_option maxRecDepth 20000
namespace Go.Proofs.Ytcfhnhhgnophhaa
open Go.RowKit
theorem pair_rd {w : World} {lo : Nat} {cs : List Value} {ts : List Token} {v : Value} {ys : List Int} (h : Pair w lo cs ⟨ts⟩ v ys) : ∃ A c B d, cs = [.slice A ts.length c] ∧ v = .slice B ys.length d ∧ SlRd TokenR w w.heap.size (.slice A ts.length c) ts ∧ Reads w w.heap.size B (ys.map intV) := by
  obtain ⟨Sa, Sb, h1, h2, sa, sb, -⟩ := h
  obtain ⟨v0, S0, rfl, q, hs⟩ := own_Forest h1
  obtain ⟨A, c, rfl⟩ := q.form
  obtain ⟨B, d, rfl⟩ := h2.form
  exact ⟨A, c, B, d, rfl, rfl, q.rd (fun g hg => (sa g (hs g hg)).2), (rd_IntS (h2.rd (fun g hg => (sb g hg).2))).2.1⟩
set_option maxHeartbeats 12800000 in
theorem law_FnSweep (v_code : Value) (code : List UInt8) (w : World) (hr_code : SlRd byteR w w.heap.size v_code code) :
    Calls Try.prog 3 #[v_code] w fun e w' => e = .returned (.bool true) ∧ Below w.heap.size w w' := by
  obtain ⟨A0, c0, rfl⟩ := SlRd.form hr_code
  obtain ⟨-, hrd, hcap1, hcap2⟩ := rd_ByteS hr_code
  have HBig := Lib.hid (fun (w' : World) => laws_big A0 code.length c0 w' (by omega))
  by_cases hbig : 1048576 < code.length
  · have hd : decide ((1048576 : Int) < (code.length : Int)) = true := by simp; omega
    rw [hd] at HBig
    go_enter Try.func3, Try.ntmps3
    go_wp2_with fail
    refine (HBig.out _).mono ?_
    rintro e w' ⟨rfl, rfl⟩
    go_wp2
    go_ret
    exact ⟨rfl, by (repeat (first | (with_reducible exact Below.refl _ _) | (with_reducible assumption) | ((with_reducible refine Below.setCell ?_ ?_ _); rotate_left; focus (first | omega | (simp; done) | (simp; omega))) | ((with_reducible refine Below.alloc ?_ ?_ _); rotate_left; focus (first | omega | (simp; done) | (simp; omega))) | (with_reducible refine Below.drew ?_) | (with_reducible refine below_drewN ?_ _) | (refine Below.trans ?_ (Below.mono (by with_reducible assumption) (by (first | omega | (simp; done) | (simp; omega)))))))⟩
  have hd : decide ((1048576 : Int) < (code.length : Int)) = false := by simp; omega
  rw [hd] at HBig
  have HD := Lib.hid (fun (w' : World) (hb : Below w.heap.size w w') => spec_DrawSweepTokens A0 c0 code w' (hrd.keep hb hb.size) (by omega))
  generalize code.length = n0 at *
  clear hrd hr_code hcap1 hcap2 hbig
  go_enter Try.func3, Try.ntmps3
  go_wp2_with fail
  refine (HBig.out _).mono ?_
  rintro e w' ⟨rfl, rfl⟩
  go_wp2_with fail
  refine (HD.out _ (Below.refl _ _)).mono ?_
  rintro e w1 ⟨A, N, c, ds, now, rfl, hF, hbw⟩
  have hzw := hbw.size
  have HRd := Lib.hid hF.rd
  have HSm := Lib.hid hF.small
  have HLn : Hid ((ds.map (·.t)).length = N) := Lib.hid (by rw [List.length_map]; exact hF.len)
  have hN := hF.few
  clear hF
  generalize ds.map (·.t) = ts at *
  have HFR := Lib.hid (fun (w' : World) (hb : Below w1.heap.size w1 w') => of_rd_Forest (x := ⟨ts⟩) (HRd.out.keep hb hb.size))
  have HSz : Hid (ForestR.sz ⟨ts⟩ ≤ 1048576) := Lib.hid (by rw [sz_Forest]; exact HSm.out)
  have hbA : Below w1.heap.size w1 (w1.alloc (.cells #[.slice A N c] 26)) := by (repeat (first | (with_reducible exact Below.refl _ _) | (with_reducible assumption) | ((with_reducible refine Below.setCell ?_ ?_ _); rotate_left; focus (first | omega | (simp; done) | (simp; omega))) | ((with_reducible refine Below.alloc ?_ ?_ _); rotate_left; focus (first | omega | (simp; done) | (simp; omega))) | (with_reducible refine Below.drew ?_) | (with_reducible refine below_drewN ?_ _) | (refine Below.trans ?_ (Below.mono (by with_reducible assumption) (by (first | omega | (simp; done) | (simp; omega)))))))
  have B3 : Blk (w1.alloc (.cells #[.slice A N c] 26)) w1.heap.size 26 #[.slice A N c] := Blk.new' rfl
  have HsA : Hid (w1.heap.size + 1 = (w1.alloc (.cells #[.slice A N c] 26)).heap.size) := Lib.hid (by simp)
  have hc3 := B3.cell
  go_wp2_with fail
  generalize (w1.alloc (.cells #[.slice A N c] 26)) = w3 at *
  have hsA := HsA.out
  obtain ⟨b3, hb3⟩ : ∃ b3, b3 = w1.heap.size := ⟨_, rfl⟩
  rw [← hb3] at B3 hc3 ⊢
  have hb31 : w1.heap.size ≤ b3 := by omega
  clear HsA hb3
  refine (spec_ForestOkL [.slice A N c] ⟨ts⟩ w3 (HFR.out _ hbA) HSz.out).mono ?_
  rintro e w4 ⟨rfl, hb4⟩
  dsimp only
  have B34 := B3.keep hb4
  have hbw4 := hbA.trans (hb4.mono hbA.size)
  clear hc3
  have hc3 := B34.cell
  cases hok : forestOk ts
  · go_wp2
    go_ret
    exact ⟨rfl, hbw.trans (hbw4.mono hzw)⟩
  have HOK := Lib.hid hok
  clear hok
  have HV := Lib.hid (sweep_valid (now := now) HOK.out)
  have HLen := Lib.hid (sweep_len (now := now) HOK.out)
  have HLeft := Lib.hid (fun (t : Token) (h : t ∈ sweepT ts now) => sweep_left HOK.out h)
  have HGone := Lib.hid (fun (x : Int) (h : x ∈ sweepI ts now) => sweep_gone HOK.out h)
  have HAgain := Lib.hid (sweep_again (now := now) HOK.out)
  have HLsz : Hid (ForestR.sz ⟨sweepT ts now⟩ ≤ 1048576) := Lib.hid (by rw [sz_Forest]; exact Nat.le_trans (sweepT_sz ts now) HSm.out)
  have HSwp := Lib.hid (impl_SweepTokensL [.slice A N c] ⟨ts⟩ now w4 (HFR.out _ hbw4) HSz.out)
  dsimp only at HSwp
  generalize sweepT ts now = L at *
  generalize sweepI ts now = G at *
  go_wp2_with fail
  refine HSwp.out.mono ?_
  rintro e w5 ⟨cs', v', rfl, hp, hb5⟩
  obtain ⟨AL, cL, AG, cG, rfl, rfl, hrL, hrG⟩ := pair_rd hp
  clear hp
  obtain ⟨nL, hnL⟩ : ∃ nL, L.length = nL := ⟨_, rfl⟩
  obtain ⟨nG, hnG⟩ : ∃ nG, G.length = nG := ⟨_, rfl⟩
  rw [hnL] at hrL ⊢
  rw [hnG]
  have HnL := Lib.hid hnL
  have HnG := Lib.hid hnG
  have hNN : nL + nG = N := by have h := HLen.out; rw [hnL, hnG, HLn.out] at h; exact h
  clear hnL hnG
  have hb6 : Below w5.heap.size w5 (w5.alloc (.cells #[.slice AL nL cL] 26)) := by (repeat (first | (with_reducible exact Below.refl _ _) | (with_reducible assumption) | ((with_reducible refine Below.setCell ?_ ?_ _); rotate_left; focus (first | omega | (simp; done) | (simp; omega))) | ((with_reducible refine Below.alloc ?_ ?_ _); rotate_left; focus (first | omega | (simp; done) | (simp; omega))) | (with_reducible refine Below.drew ?_) | (with_reducible refine below_drewN ?_ _) | (refine Below.trans ?_ (Below.mono (by with_reducible assumption) (by (first | omega | (simp; done) | (simp; omega)))))))
  have B5 : Blk (w5.alloc (.cells #[.slice AL nL cL] 26)) w5.heap.size 26 #[.slice AL nL cL] := Blk.new' rfl
  have hz5 := hb5.size
  have hb46 := hb5.trans (hb6.mono hz5)
  have B36 := B34.keep hb46
  have hrL6 := hrL.keep hb6 hb6.size
  have hrG6 := hrG.keep hb6 hb6.size
  have hbw6 := hbw4.trans (hb46.mono hbw4.size)
  have HsB : Hid (w5.heap.size + 1 = (w5.alloc (.cells #[.slice AL nL cL] 26)).heap.size) := Lib.hid (by simp)
  clear hc3
  go_upto_region 7 with fail
  generalize (w5.alloc (.cells #[.slice AL nL cL] 26)) = w6 at *
  have hsB := HsB.out
  obtain ⟨b5, hb5e⟩ : ∃ b5, b5 = w5.heap.size := ⟨_, rfl⟩
  rw [← hb5e] at B5 ⊢
  clear HsB hb5e hb5 hb6 hrL hrG hb46 B34 B3 hsB hz5 hb4
  have HrL := Lib.hid (fun (w' : World) (hb : Below w6.heap.size w6 w') => of_rd_Forest (x := ⟨L⟩) (hrL6.keep hb hb.size))
  have hc3 := B36.cell; have hc5 := B5.cell
  have hNI : ((nL : Int) + (nG : Int)) = (N : Int) := by omega
  go_wp2_with fail
  refine (spec_ForestOkL [.slice AL nL cL] ⟨L⟩ w6 (HrL.out _ (Below.refl _ _)) HLsz.out).mono ?_
  rintro e w7 ⟨rfl, hb7⟩
  dsimp only
  rw [HV.out]
  have B37 := B36.keep hb7; have B57 := B5.keep hb7
  have hrL7 := hrL6.keep hb7 hb7.size
  have hrG7 := hrG6.keep hb7 hb7.size
  have hbw7 := hbw6.trans (hb7.mono hbw6.size)
  clear hc3 hc5 B36 B5 hrL6 hrG6 hbw6 hb7 hbw4
  have hc3 := B37.cell; have hc5 := B57.cell
  clear HrL
  have HrL := Lib.hid (fun (w' : World) (hb : Below w7.heap.size w7 w') => hrL7.keep hb hb.size)
  have HGw := Lib.hid (fun (x : Int) (w' : World) (hb : Below w7.heap.size w7 w') => laws_within AG cG G x w' (hrG7.keep hb hb.size) (by rw [HnG.out]; omega))
  have HfR := Lib.hid (fun (w' : World) (hb : Below w7.heap.size w7 w') => HFR.out w' (hbw7.trans (hb.mono hbw7.size)))
  rw [HnG.out] at HGw
  go_wp2_with fail
  go_loopw [7] (fun i wr => ∃ k : Nat, k ≤ nL ∧ i = .int .i64 k ∧ Below w7.heap.size w7 wr) (fun i _ => nL - (intOf i).toNat)
  case atStart => exact ⟨0, Nat.zero_le _, rfl, Below.refl _ _⟩
  case round =>
    obtain ⟨k, hk, rfl, hb⟩ := hrel
    have hzr := hb.size
    have B5r := B57.keep hb; have B3r := B37.keep hb
    clear hc3 hc5
    have hc5 := B5r.cell; have hl5 := B5r.lt
    by_cases hlt : k < nL
    · have hltI : (k : Int) < (nL : Int) := by omega
      have hlx : k < L.length := by rw [HnL.out]; exact hlt
      have HT := Lib.hid (List.getElem?_eq_getElem hlx)
      have HLt := Lib.hid (HLeft.out _ (List.getElem_mem hlx))
      generalize L[k]'hlx = t at HT HLt
      clear hlx
      obtain ⟨b, off, An, cn, rfl, hab, -, r0, r1, r2, r3, r4, r5, r6⟩ := tok_elem (HrL.out _ hb) HT.out
      obtain ⟨o1, o2, o3⟩ := HLt.out
      have B8 : Blk (wr.alloc (.cells #[.int .i64 t.Id, .int .i64 t.Parent, .slice An t.Names.length cn, .int .i64 t.Made, .int .i64 t.Ends, .int .i64 t.Limit, .int .i64 t.Uses] 35)) wr.heap.size 35 #[.int .i64 t.Id, .int .i64 t.Parent, .slice An t.Names.length cn, .int .i64 t.Made, .int .i64 t.Ends, .int .i64 t.Limit, .int .i64 t.Uses] := Blk.new' rfl
      have hb8 : Below wr.heap.size wr (wr.alloc (.cells #[.int .i64 t.Id, .int .i64 t.Parent, .slice An t.Names.length cn, .int .i64 t.Made, .int .i64 t.Ends, .int .i64 t.Limit, .int .i64 t.Uses] 35)) := by (repeat (first | (with_reducible exact Below.refl _ _) | (with_reducible assumption) | ((with_reducible refine Below.setCell ?_ ?_ _); rotate_left; focus (first | omega | (simp; done) | (simp; omega))) | ((with_reducible refine Below.alloc ?_ ?_ _); rotate_left; focus (first | omega | (simp; done) | (simp; omega))) | (with_reducible refine Below.drew ?_) | (with_reducible refine below_drewN ?_ _) | (refine Below.trans ?_ (Below.mono (by with_reducible assumption) (by (first | omega | (simp; done) | (simp; omega)))))))
      have hbw8 := hb.trans (hb8.mono hzr)
      have hc8 := B8.cell
      have hov : (t.Ends == 0) = true ∨ ((t.Ends == 0) = false ∧ decide (t.Ends ≤ now) = false) := by
        unfold overP overB at o1
        cases he : t.Ends == 0
        · right
          refine ⟨rfl, ?_⟩
          simpa [he, bne] using o1
        · left; rfl
      have hW1 := HGw.out t.Id _ hbw8
      have hW2 := HGw.out t.Parent _ hbw8
      rw [o2] at hW1
      rw [o3] at hW2
      clear o1 o2 o3
      go_upto_region 13 with fail
      generalize (wr.alloc (.cells #[.int .i64 t.Id, .int .i64 t.Parent, .slice An t.Names.length cn, .int .i64 t.Made, .int .i64 t.Ends, .int .i64 t.Limit, .int .i64 t.Uses] 35)) = w8 at *
      obtain ⟨b8, hb8e⟩ : ∃ b8, b8 = wr.heap.size := ⟨_, rfl⟩
      rw [← hb8e] at B8 hc8 ⊢
      clear hb8e r0 r1 r2 r3 r4 r5 r6 hc5
      go_cut [77] (fun s77 wx => s77 = .bool false ∧ wx = w8)
      case first =>
        rcases hov with h1 | ⟨h1, h2⟩
        · have h1n : (t.Ends != 0) = false := by simp only [bne, h1]; rfl
          go_wp2_with fail
          refine hW1.mono ?_
          rintro e w' ⟨rfl, rfl⟩
          go_wp2_with fail
          refine hW2.mono ?_
          rintro e w' ⟨rfl, rfl⟩
          go_wp2_with fail
          go_meet
          exact ⟨rfl, rfl⟩
        · have h1n : (t.Ends != 0) = true := by simp only [bne, h1]; rfl
          go_wp2_with fail
          refine hW1.mono ?_
          rintro e w' ⟨rfl, rfl⟩
          go_wp2_with fail
          refine hW2.mono ?_
          rintro e w' ⟨rfl, rfl⟩
          go_wp2_with fail
          go_meet
          exact ⟨rfl, rfl⟩
      case rest =>
        obtain ⟨rfl, hwx⟩ := hcut
        have hwx2 := hwx.symm
        subst hwx2
        clear hwx
        go_wp2_with fail
        go_roundw
        case rel => exact ⟨k + 1, by omega, by go_num, hbw8⟩
        case measure => simp [intOf]; omega
    · obtain rfl : k = nL := by omega
      go_wp2_with fail
      clear hc5 hl5 B5r B3r HLeft
      have hbL := hb
      clear hb hzr
      go_loopw [9] (fun i wr => ∃ j : Nat, j ≤ nG ∧ i = .int .i64 j ∧ Below w7.heap.size w7 wr) (fun i _ => nG - (intOf i).toNat)
      case atStart => exact ⟨0, Nat.zero_le _, rfl, hbL⟩
      case round =>
        clear hbL
        obtain ⟨j, hj, rfl, hb⟩ := hrel
        have hzr := hb.size
        have B5r := B57.keep hb; have B3r := B37.keep hb
        have hc3 := B3r.cell; have hl3 := B3r.lt; have hf3 := B3r.frozen
        by_cases hlt : j < nG
        · have hltI : (j : Int) < (nG : Int) := by omega
          have hlx : j < G.length := by rw [HnG.out]; exact hlt
          have hjm : j < (G.map intV).length := by simpa using hlx
          obtain ⟨bg, offg, rfl, habg, hcg⟩ := hrG7.at_ hjm hb (Nat.le_refl _)
          rw [List.getElem_map] at hcg
          simp only [intV] at hcg
          have HGo := Lib.hid (HGone.out _ (List.getElem_mem hlx))
          generalize G[j]'hlx = x at hcg HGo
          clear hlx hjm
          obtain ⟨o1, o2⟩ := HGo.out
          have HF := Lib.hid (fun (w' : World) (hb' : Below wr.heap.size wr w') => spec_FindTokenL [.slice A N c] ⟨ts⟩ x w' (HfR.out w' (hb.trans (hb'.mono hzr))) HSz.out)
          dsimp only at HF
          rw [o1] at HF
          generalize findTok ts x = p at *
          clear o1
          have hbgr : bg < wr.heap.size := by omega
          go_wp2_with fail
          go_cut [10, 11] (fun s10 s11 wx => ∃ (b10 : Nat) (An : Option Addr) (np cn : Nat), s10 = .pointer (some ⟨b10, 0, none⟩) ∧ s11 = .bool true ∧ Blk wx b10 35 #[.int .i64 p.Id, .int .i64 p.Parent, .slice An np cn, .int .i64 p.Made, .int .i64 p.Ends, .int .i64 p.Limit, .int .i64 p.Uses] ∧ Below wr.heap.size wr wx)
          case first =>
            go_region_law (first | (go_simp; go_at_call 11; ((with_reducible refine (HF.out _ ?_).mono ?_); (focus (repeat (first | (with_reducible exact Below.refl _ _) | (with_reducible assumption) | ((with_reducible refine Below.setCell ?_ ?_ _); rotate_left; focus (first | omega | (simp; done) | (simp; omega))) | ((with_reducible refine Below.alloc ?_ ?_ _); rotate_left; focus (first | omega | (simp; done) | (simp; omega))) | (with_reducible refine Below.drew ?_) | (with_reducible refine below_drewN ?_ _) | (refine Below.trans ?_ (Below.mono (by with_reducible assumption) (by (first | omega | (simp; done) | (simp; omega))))))))); rintro e wA ⟨cs', rfl, hTd, hbA⟩; (try ((refine (fun BN1 : Blk wA wr.heap.size 35 #[.int .i64 0, .int .i64 0, .slice none 0 0, .int .i64 0, .int .i64 0, .int .i64 0, .int .i64 0] => ?_ : Blk wA wr.heap.size 35 #[.int .i64 0, .int .i64 0, .slice none 0 0, .int .i64 0, .int .i64 0, .int .i64 0, .int .i64 0] → _) ?_); (rotate_left; focus ((repeat (first | (with_reducible assumption) | ((with_reducible refine Blk.new' ?_); focus (simp; done)) | (with_reducible refine Blk.alloc ?_ _) | (with_reducible refine Blk.drew ?_) | (with_reducible refine Blk.drewN ?_ _) | ((with_reducible refine Blk.far ?_ ?_ _); rotate_left; focus (first | omega | (simp; done) | (simp; omega))) | (refine Blk.keep ?_ (by with_reducible assumption)) | (refine Blk.below ?_ (by with_reducible assumption) (by (first | omega | (simp; done) | (simp; omega)))))); done)); have hcN1 := BN1.cell; have hfN1 := BN1.frozen; have hlN1 := BN1.lt)); obtain ⟨v0, S0, rfl, hn0, -⟩ := own_Token hTd; obtain ⟨An, cn, rfl⟩ := hn0.form; obtain ⟨np, hnp⟩ : ∃ np, p.Names.length = np := ⟨_, rfl⟩; rw [hnp]; clear hnp; have hzA := hbA.size; (try simp at hzA); have hbg : Below wr.heap.size wr wA := (by (repeat (first | (with_reducible exact Below.refl _ _) | (with_reducible assumption) | ((with_reducible refine Below.setCell ?_ ?_ _); rotate_left; focus (first | omega | (simp; done) | (simp; omega))) | ((with_reducible refine Below.alloc ?_ ?_ _); rotate_left; focus (first | omega | (simp; done) | (simp; omega))) | (with_reducible refine Below.drew ?_) | (with_reducible refine below_drewN ?_ _) | (refine Below.trans ?_ (Below.mono (by with_reducible assumption) (by (first | omega | (simp; done) | (simp; omega)))))))); have hc3A := (B3r.keep hbg).cell; have hl3A := (B3r.keep hbg).lt; have hcgA := (hbg.cell hbgr).trans hcg))
            all_goals first | (have BX : Blk (World.setCell (World.setCell (World.setCell (World.setCell (World.setCell (World.setCell (World.setCell wA ⟨wr.heap.size, 0, none⟩ (.int .i64 p.Id)) ⟨wr.heap.size, 1, none⟩ (.int .i64 p.Parent)) ⟨wr.heap.size, 2, none⟩ (.slice An np cn)) ⟨wr.heap.size, 3, none⟩ (.int .i64 p.Made)) ⟨wr.heap.size, 4, none⟩ (.int .i64 p.Ends)) ⟨wr.heap.size, 5, none⟩ (.int .i64 p.Limit)) ⟨wr.heap.size, 6, none⟩ (.int .i64 p.Uses)) wr.heap.size 35 #[.int .i64 p.Id, .int .i64 p.Parent, .slice An np cn, .int .i64 p.Made, .int .i64 p.Ends, .int .i64 p.Limit, .int .i64 p.Uses] := (Blk.set_ (Blk.set_ (Blk.set_ (Blk.set_ (Blk.set_ (Blk.set_ (Blk.set_ BN1 0 (.int .i64 p.Id)) 1 (.int .i64 p.Parent)) 2 (.slice An np cn)) 3 (.int .i64 p.Made)) 4 (.int .i64 p.Ends)) 5 (.int .i64 p.Limit)) 6 (.int .i64 p.Uses)); have hbX : Below wr.heap.size wr (World.setCell (World.setCell (World.setCell (World.setCell (World.setCell (World.setCell (World.setCell wA ⟨wr.heap.size, 0, none⟩ (.int .i64 p.Id)) ⟨wr.heap.size, 1, none⟩ (.int .i64 p.Parent)) ⟨wr.heap.size, 2, none⟩ (.slice An np cn)) ⟨wr.heap.size, 3, none⟩ (.int .i64 p.Made)) ⟨wr.heap.size, 4, none⟩ (.int .i64 p.Ends)) ⟨wr.heap.size, 5, none⟩ (.int .i64 p.Limit)) ⟨wr.heap.size, 6, none⟩ (.int .i64 p.Uses)) := (Below.setCell (Below.setCell (Below.setCell (Below.setCell (Below.setCell (Below.setCell (Below.setCell hbg (by simp) (.int .i64 p.Id)) (by simp) (.int .i64 p.Parent)) (by simp) (.slice An np cn)) (by simp) (.int .i64 p.Made)) (by simp) (.int .i64 p.Ends)) (by simp) (.int .i64 p.Limit)) (by simp) (.int .i64 p.Uses)); go_wp2_with fail; go_meet; exact ⟨wr.heap.size, An, np, cn, rfl, rfl, BX, hbX⟩) | (have BX : Blk (World.alloc wA (.cells #[.int .i64 p.Id, .int .i64 p.Parent, .slice An np cn, .int .i64 p.Made, .int .i64 p.Ends, .int .i64 p.Limit, .int .i64 p.Uses] 35)) wA.heap.size 35 #[.int .i64 p.Id, .int .i64 p.Parent, .slice An np cn, .int .i64 p.Made, .int .i64 p.Ends, .int .i64 p.Limit, .int .i64 p.Uses] := Blk.new' rfl; have hbX : Below wr.heap.size wr (World.alloc wA (.cells #[.int .i64 p.Id, .int .i64 p.Parent, .slice An np cn, .int .i64 p.Made, .int .i64 p.Ends, .int .i64 p.Limit, .int .i64 p.Uses] 35)) := Below.alloc hbg (by omega) _; go_wp2_with fail; go_meet; exact ⟨wA.heap.size, An, np, cn, rfl, rfl, BX, hbX⟩)
          case rest =>
            obtain ⟨b10, An, np, cn, rfl, rfl, B10, hb10⟩ := hcut
            obtain ⟨w8, hw8⟩ : ∃ w_, w_ = wc := ⟨_, rfl⟩
            subst hw8
            have hbw8 := hb.trans (hb10.mono hzr)
            have hW := HGw.out p.Parent _ hbw8
            have hc10 := B10.cell
            clear hc3 hl3 hf3 hcg
            have hov : (p.Ends == 0) = true ∧ hasB G p.Parent = true ∨ (p.Ends == 0) = false ∧ decide (p.Ends ≤ now) = true ∨ (p.Ends == 0) = false ∧ decide (p.Ends ≤ now) = false ∧ hasB G p.Parent = true := by
              unfold overP overB at o2
              cases he : p.Ends == 0
              · cases h2 : decide (p.Ends ≤ now)
                · right; right; exact ⟨rfl, rfl, by simpa [he, h2, bne] using o2⟩
                · right; left; exact ⟨rfl, rfl⟩
              · left; exact ⟨rfl, by simpa [he, bne] using o2⟩
            clear o2
            go_upto_region 19 with fail
            go_cut [113] (fun s113 wx => s113 = .bool false ∧ wx = w8)
            case first =>
              rcases hov with ⟨h1, h2⟩ | ⟨h1, h2⟩ | ⟨h1, h2, h3⟩
              · have h1n : (p.Ends != 0) = false := by simp only [bne, h1]; rfl
                rw [h2] at hW
                go_wp2_with fail
                refine hW.mono ?_
                rintro e w' ⟨rfl, rfl⟩
                go_wp2_with fail
                go_meet
                exact ⟨rfl, rfl⟩
              · have h1n : (p.Ends != 0) = true := by simp only [bne, h1]; rfl
                go_wp2_with fail
                go_meet
                exact ⟨rfl, rfl⟩
              · have h1n : (p.Ends != 0) = true := by simp only [bne, h1]; rfl
                rw [h3] at hW
                go_wp2_with fail
                refine hW.mono ?_
                rintro e w' ⟨rfl, rfl⟩
                go_wp2_with fail
                go_meet
                exact ⟨rfl, rfl⟩
            case rest =>
              obtain ⟨rfl, hwx⟩ := hcut
              have hwx2 := hwx.symm
              subst hwx2
              clear hwx
              go_wp2_with fail
              go_roundw
              case rel => exact ⟨j + 1, by omega, by go_num, hbw8⟩
              case measure => simp [intOf]; omega
        · obtain rfl : j = nG := by omega
          have hc5 := B5r.cell
          have HS2 := impl_SweepTokensL [.slice AL k cL] ⟨L⟩ now wr (of_rd_Forest (x := ⟨L⟩) (HrL.out _ hb)) HLsz.out
          dsimp only at HS2
          rw [HAgain.out] at HS2
          clear hc3 hl3 hf3
          go_wp2_with fail
          refine HS2.mono ?_
          rintro e w8 ⟨cs', v', rfl, hp, hb8⟩
          obtain ⟨A2, c2, B2, d2, rfl, rfl, -, -⟩ := pair_rd hp
          have hbz := hbw.trans ((hbw7.trans ((hb.trans (hb8.mono hzr)).mono hbw7.size)).mono hzw)
          have hbzs := hbz.size
          go_wp2
          go_ret
          exact ⟨rfl, hbz.alloc hbzs _⟩
end Go.Proofs.Ytcfhnhhgnophhaa

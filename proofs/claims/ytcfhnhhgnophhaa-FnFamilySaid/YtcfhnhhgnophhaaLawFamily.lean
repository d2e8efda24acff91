/- FnFamily: the walk of the law. -/
import Derived.Test.YtcfhnhhgnophhaaPkFam
import Derived.Test.YtcfhnhhgnophhaaDrawBelow
import Derived.Test.YtcfhnhhgnophhaaAtLib
import Derived.Test.YtcfhnhhgnophhaaByteS2
import Derived.Test.YtcfhnhhgnophhaaForestL
import Derived.Test.YtcfhnhhgnophhaaBelow
import Derived.Test.YtcfhnhhgnophhaaDepth
import Derived.Test.YtcfhnhhgnophhaaRevoke
import Derived.Test.YtcfhnhhgnophhaaPkAlone
set_option linter.unusedSimpArgs false
set_option linter.unusedVariables false
set_option maxRecDepth 20000
namespace Go.Proofs.Ytcfhnhhgnophhaa
open Go.RowKit
theorem depthW_le {ts : List Token} : ∀ (n : Nat) (p : Int), p.toNat ≤ n → 0 ≤ p → depthW ts p ≤ p.toNat
  | 0, p, h, h0 => by
    obtain rfl : p = 0 := by omega
    rw [depthW_zero]; omega
  | n + 1, p, h, h0 => by
    by_cases hp : p = 0
    · subst hp; rw [depthW_zero]; omega
    · rw [depthW, if_neg hp]
      split
      · rename_i hq
        have := depthW_le (ts := ts) n (parentId ts p) (by omega) hq.1
        omega
      · omega
theorem depthF_bd {ts : List Token} (hf : forestOk ts = true) {x : Int} : -1 ≤ depthF ts x ∧ depthF ts x ≤ 1000000000 := by
  by_cases hx : idxT ts x < 0
  · rw [depthF_none hx]; omega
  · obtain ⟨i, t, e1, e2, e3⟩ := tok_at (Int.not_lt.1 hx)
    obtain ⟨h1, h2, h3, h4, h5⟩ := forest_tok hf e2
    rw [depthF_at hf e1 e2]
    have := depthW_le (ts := ts) t.Parent.toNat t.Parent (Nat.le_refl _) h3
    omega
set_option maxHeartbeats 12800000 in
theorem law_FnFamily (v_code : Value) (code : List UInt8) (w : World) (hr_code : SlRd byteR w w.heap.size v_code code) :
    Calls Try.prog 4 #[v_code] w fun e w' => e = .returned (.bool true) ∧ Below w.heap.size w w' := by
  obtain ⟨A0, c0, rfl⟩ := SlRd.form hr_code
  obtain ⟨-, hrd, hcap1, hcap2⟩ := rd_ByteS hr_code
  have HBig := Lib.hid (fun (w' : World) => laws_big A0 code.length c0 w' (by omega))
  by_cases hbig : 1048576 < code.length
  · have hd : decide ((1048576 : Int) < (code.length : Int)) = true := by simp; omega
    rw [hd] at HBig
    go_enter Try.func4, Try.ntmps4
    go_wp2_with fail
    refine (HBig.out _).mono ?_
    rintro e w' ⟨rfl, rfl⟩
    go_wp2
    go_ret
    exact ⟨rfl, by (repeat (first | (with_reducible exact Below.refl _ _) | (with_reducible assumption) | ((with_reducible refine Below.setCell ?_ ?_ _); rotate_left; focus (first | omega | (simp; done) | (simp; omega))) | ((with_reducible refine Below.alloc ?_ ?_ _); rotate_left; focus (first | omega | (simp; done) | (simp; omega))) | (with_reducible refine Below.drew ?_) | (with_reducible refine below_drewN ?_ _) | (refine Below.trans ?_ (Below.mono (by with_reducible assumption) (by (first | omega | (simp; done) | (simp; omega)))))))⟩
  have hd : decide ((1048576 : Int) < (code.length : Int)) = false := by simp; omega
  rw [hd] at HBig
  have HD := Lib.hid (fun (w' : World) (hb : Below w.heap.size w w') => spec_DrawBelow A0 c0 code w' (hrd.keep hb hb.size) (by omega))
  generalize code.length = n0 at *
  clear hrd hr_code hcap1 hcap2 hbig
  go_enter Try.func4, Try.ntmps4
  go_wp2_with fail
  refine (HBig.out _).mono ?_
  rintro e w' ⟨rfl, rfl⟩
  go_wp2_with fail
  refine (HD.out _ (Below.refl _ _)).mono ?_
  rintro e w1 ⟨A, N, c, ds, id, rfl, hF, hbw⟩
  have hzw := hbw.size
  have HRd := Lib.hid hF.rd
  have HSm := Lib.hid hF.small
  have HLn : Hid ((ds.map (·.t)).length = N) := Lib.hid (by rw [List.length_map]; exact hF.len)
  have hN := hF.few
  clear hF
  generalize ds.map (·.t) = ts at *
  have HFR := Lib.hid (fun (w' : World) (hb : Below w1.heap.size w1 w') => of_rd_Forest (x := ⟨ts⟩) (HRd.out.keep hb hb.size))
  have HSz : Hid (ForestR.sz ⟨ts⟩ ≤ 1048576) := Lib.hid (by rw [sz_Forest]; exact HSm.out)
  have hbA : Below w1.heap.size w1 (w1.alloc (.cells #[.slice A N c] 26)) := by (repeat (first | (with_reducible exact Below.refl _ _) | (with_reducible assumption) | ((with_reducible refine Below.setCell ?_ ?_ _); rotate_left; focus (first | omega | (simp; done) | (simp; omega))) | ((with_reducible refine Below.alloc ?_ ?_ _); rotate_left; focus (first | omega | (simp; done) | (simp; omega))) | (with_reducible refine Below.drew ?_) | (with_reducible refine below_drewN ?_ _) | (refine Below.trans ?_ (Below.mono (by with_reducible assumption) (by (first | omega | (simp; done) | (simp; omega)))))))
  have B3 : Blk (w1.alloc (.cells #[.slice A N c] 26)) w1.heap.size 26 #[.slice A N c] := Blk.new' rfl
  have HsA : Hid (w1.heap.size + 1 = (w1.alloc (.cells #[.slice A N c] 26)).heap.size) := Lib.hid (by simp)
  have hc3 := B3.cell
  go_wp2_with fail
  generalize (w1.alloc (.cells #[.slice A N c] 26)) = w3 at *
  have hsA := HsA.out
  obtain ⟨b3, hb3⟩ : ∃ b3, b3 = w1.heap.size := ⟨_, rfl⟩
  rw [← hb3] at B3 hc3 ⊢
  have hb31 : w1.heap.size ≤ b3 := by omega
  clear HsA hb3
  refine (spec_BelowL [.slice A N c] ⟨ts⟩ id w3 (HFR.out _ hbA) HSz.out).mono ?_
  rintro e w4 ⟨vW, rfl, hoW, hb4⟩
  obtain ⟨AW, cW, rfl⟩ := hoW.form
  have hrW := (rd_IntS (hoW.rd (fun q hq => hq.2))).2.1
  dsimp only at hrW ⊢
  have B34 := B3.keep hb4
  have hbw4 := hbA.trans (hb4.mono hbA.size)
  clear hc3 hoW
  have hc3 := B34.cell
  have HImpl := Lib.hid (fun (w' : World) (hb : Below w1.heap.size w1 w') => impl_BelowL [.slice A N c] ⟨ts⟩ id w' (HFR.out _ hb) HSz.out)
  dsimp only at HImpl
  have HPos := Lib.hid (fun h => below_pos (ts := ts) (id := id) h)
  have hGl := belowF_len ts id
  rw [HLn.out] at hGl
  generalize belowF ts id = G at *
  obtain ⟨nG, hnG⟩ : ∃ nG, G.length = nG := ⟨_, rfl⟩
  rw [hnG] at hGl ⊢
  have HnG := Lib.hid hnG
  clear hnG
  by_cases hG0 : nG = 0
  · subst hG0
    go_wp2
    go_ret
    exact ⟨rfl, hbw.trans (hbw4.mono hzw)⟩
  have hGI : (((nG : Int)) == 0) = false := by simp; omega
  obtain ⟨hok, hidx, hGS, hfind⟩ := HPos.out (by rw [HnG.out]; omega)
  have HOK := Lib.hid hok
  have HIdx := Lib.hid hidx
  have HClosed := Lib.hid (fun (t : Token) (h : t ∈ ts) => below_closed (id := id) HOK.out h)
  have HDep := Lib.hid (fun (t : Token) (h : t ∈ ts) => depth_child HOK.out h)
  have HDbd := Lib.hid (fun (x : Int) => depthF_bd HOK.out (x := x))
  have HRev := Lib.hid (rev_ok (id := id) HOK.out).2
  have HRlen := Lib.hid (rev_len (id := id) HOK.out)
  have HRval := Lib.hid (rev_valid (id := id) HOK.out)
  have HAlen := Lib.hid (alone_len HOK.out HIdx.out)
  have HAval := Lib.hid (alone_valid HOK.out HIdx.out)
  have HRsz := Lib.hid (Nat.le_trans (revT_sz ts id) HSm.out)
  have HAsz := Lib.hid (Nat.le_trans (aloneT_sz ts id) HSm.out)
  have HRC := Lib.hid (fun (w' : World) (hb : Below w1.heap.size w1 w') => impl_RevokeTokenL [.slice A N c] ⟨ts⟩ id w' (HFR.out _ hb) HSz.out)
  have HAC := Lib.hid (fun (w' : World) (hb : Below w1.heap.size w1 w') => impl_RevokeAloneL [.slice A N c] ⟨ts⟩ id w' (HFR.out _ hb) HSz.out)
  have HDC := Lib.hid (fun (x : Int) (w' : World) (hb : Below w1.heap.size w1 w') => impl_DepthL [.slice A N c] ⟨ts⟩ x w' (HFR.out _ hb) HSz.out)
  dsimp only at HRC HAC HDC
  rw [hfind] at HAC
  rw [← hGS] at HClosed HRev
  rw [HRev.out] at HRC HRlen
  clear hok hidx hGS hfind HPos HRev
  generalize revT ts id = R at *
  generalize aloneT ts id = Q at *
  generalize depthF ts = df at *
  go_wp2_with fail
  refine (HImpl.out w4 hbw4).mono ?_
  rintro e w5 ⟨vL, rfl, hoL, hb5⟩
  obtain ⟨AL, cL, rfl⟩ := hoL.form
  have hrL := (rd_IntS (hoL.rd (fun q hq => hq.2))).2.1
  rw [HnG.out]
  have B35 := B34.keep hb5
  have hrW5 := hrW.keep hb5 hb5.size
  have hbw5 := hbw4.trans (hb5.mono hbw4.size)
  clear hc3 hoL hrW
  have hc3 := B35.cell
  go_wp2_with fail
  refine (laws_same AL AW cL cW nG G w5 hrL hrW5 HnG.out (by omega)).mono ?_
  rintro e w7 ⟨rfl, hb7⟩
  have B37 := B35.keep hb7
  have hrL7 := hrL.keep hb7 hb7.size
  have hbw7 := hbw5.trans (hb7.mono hbw5.size)
  clear hc3 hrW5 B34 B35 B3 hb4 hb5 hb7 hrL hbw4 hbw5
  have HLw := Lib.hid (fun (x : Int) (w' : World) (hb : Below w7.heap.size w7 w') => laws_within AL cL G x w' (hrL7.keep hb hb.size) (by rw [HnG.out]; omega))
  rw [HnG.out] at HLw
  have hz7 := hbw7.size
  have hc3 := B37.cell
  go_wp2_with fail
  go_loopw [7] (fun i wr => ∃ k : Nat, k ≤ N ∧ i = .int .i64 k ∧ Below w7.heap.size w7 wr) (fun i _ => N - (intOf i).toNat)
  case atStart => exact ⟨0, Nat.zero_le _, rfl, Below.refl _ _⟩
  case round =>
    clear hc3
    obtain ⟨k, hk, rfl, hb⟩ := hrel
    have hzr := hb.size
    have hbr := hbw7.trans (hb.mono hz7)
    have B3r := B37.keep hb
    have hc3 := B3r.cell; have hl3 := B3r.lt
    by_cases hlt : k < N
    · have hltI : (k : Int) < (N : Int) := by omega
      have hlx : k < ts.length := by rw [HLn.out]; exact hlt
      have HT := Lib.hid (List.getElem?_eq_getElem hlx)
      have HCl := Lib.hid (HClosed.out _ (List.getElem_mem hlx))
      have HDp := Lib.hid (HDep.out _ (List.getElem_mem hlx))
      generalize ts[k]'hlx = t at HT HCl HDp
      clear hlx
      obtain ⟨b, off, An, cn, rfl, hab, -, r0, r1, r2, r3, r4, r5, r6⟩ := tok_elem (HRd.out.keep hbr hbr.size) HT.out
      have hcl := HCl.out
      have hdp := HDp.out
      have B8 : Blk (wr.alloc (.cells #[.int .i64 t.Id, .int .i64 t.Parent, .slice An t.Names.length cn, .int .i64 t.Made, .int .i64 t.Ends, .int .i64 t.Limit, .int .i64 t.Uses] 35)) wr.heap.size 35 #[.int .i64 t.Id, .int .i64 t.Parent, .slice An t.Names.length cn, .int .i64 t.Made, .int .i64 t.Ends, .int .i64 t.Limit, .int .i64 t.Uses] := Blk.new' rfl
      have hb8 : Below wr.heap.size wr (wr.alloc (.cells #[.int .i64 t.Id, .int .i64 t.Parent, .slice An t.Names.length cn, .int .i64 t.Made, .int .i64 t.Ends, .int .i64 t.Limit, .int .i64 t.Uses] 35)) := by (repeat (first | (with_reducible exact Below.refl _ _) | (with_reducible assumption) | ((with_reducible refine Below.setCell ?_ ?_ _); rotate_left; focus (first | omega | (simp; done) | (simp; omega))) | ((with_reducible refine Below.alloc ?_ ?_ _); rotate_left; focus (first | omega | (simp; done) | (simp; omega))) | (with_reducible refine Below.drew ?_) | (with_reducible refine below_drewN ?_ _) | (refine Below.trans ?_ (Below.mono (by with_reducible assumption) (by (first | omega | (simp; done) | (simp; omega)))))))
      have hbw8 := hb.trans (hb8.mono hzr)
      have hbr8 := hbr.trans (hb8.mono hbr.size)
      have B38 := B3r.keep hb8
      go_upto_region 14 with fail
      generalize (wr.alloc (.cells #[.int .i64 t.Id, .int .i64 t.Parent, .slice An t.Names.length cn, .int .i64 t.Made, .int .i64 t.Ends, .int .i64 t.Limit, .int .i64 t.Uses] 35)) = w8 at *
      obtain ⟨b8, hb8e⟩ : ∃ b8, b8 = wr.heap.size := ⟨_, rfl⟩
      rw [← hb8e] at B8 ⊢
      clear hb8e r0 r1 r2 r3 r4 r5 r6 hc3 hl3
      have hW1 := Lib.hid (fun (w' : World) (hb' : Below w8.heap.size w8 w') => HLw.out t.Id w' (hbw8.trans (hb'.mono hbw8.size)))
      have hW2 := Lib.hid (fun (w' : World) (hb' : Below w8.heap.size w8 w') => HLw.out t.Parent w' (hbw8.trans (hb'.mono hbw8.size)))
      rw [hcl] at hW1
      have hb8s := hbw8.size
      generalize hasB G t.Parent = hp at *
      go_cut [60] (fun s60 wx => s60 = .bool false ∧ Below w8.heap.size w8 wx)
      case first =>
        have q1 := B8.later
        cases hid : (t.Id == id)
        · rw [hid, Bool.false_or] at hW1
          cases hp
          · skip
            refine wp_region_later (by kernel_rfl) (by kernel_rfl) ?_
            repeat (first | go_big_quiet_step ((first | (go_at_call 10; with_reducible exact Calls.later_of ((hW1.out _ (later_below _ _)).mono (fun _ _ h => ⟨h.1, h.2 ▸ Below.refl _ _⟩))) | (go_at_call 10; with_reducible exact Calls.later_of ((hW2.out _ (later_below _ _)).mono (fun _ _ h => ⟨h.1, h.2 ▸ Below.refl _ _⟩))))) | quiet_step ((first | (go_at_call 10; with_reducible exact Calls.later_of ((hW1.out _ (later_below _ _)).mono (fun _ _ h => ⟨h.1, h.2 ▸ Below.refl _ _⟩))) | (go_at_call 10; with_reducible exact Calls.later_of ((hW2.out _ (later_below _ _)).mono (fun _ _ h => ⟨h.1, h.2 ▸ Below.refl _ _⟩))))))
            refine wpQuiet_nil ?_
            intro w9 hb9
            go_wp2_with fail
            go_meet
            exact ⟨rfl, hb9⟩
          · skip
            refine wp_region_later (by kernel_rfl) (by kernel_rfl) ?_
            repeat (first | go_big_quiet_step ((first | (go_at_call 10; with_reducible exact Calls.later_of ((hW1.out _ (later_below _ _)).mono (fun _ _ h => ⟨h.1, h.2 ▸ Below.refl _ _⟩))) | (go_at_call 10; with_reducible exact Calls.later_of ((hW2.out _ (later_below _ _)).mono (fun _ _ h => ⟨h.1, h.2 ▸ Below.refl _ _⟩))))) | quiet_step ((first | (go_at_call 10; with_reducible exact Calls.later_of ((hW1.out _ (later_below _ _)).mono (fun _ _ h => ⟨h.1, h.2 ▸ Below.refl _ _⟩))) | (go_at_call 10; with_reducible exact Calls.later_of ((hW2.out _ (later_below _ _)).mono (fun _ _ h => ⟨h.1, h.2 ▸ Below.refl _ _⟩))))))
            refine wpQuiet_nil ?_
            intro w9 hb9
            go_wp2_with fail
            go_meet
            exact ⟨rfl, hb9⟩
        · rw [hid, Bool.true_or] at hW1
          refine wp_region_later (by kernel_rfl) (by kernel_rfl) ?_
          repeat (first | go_big_quiet_step ((go_at_call 10; with_reducible exact Calls.later_of ((hW1.out _ (later_below _ _)).mono (fun _ _ h => ⟨h.1, h.2 ▸ Below.refl _ _⟩)))) | quiet_step ((go_at_call 10; with_reducible exact Calls.later_of ((hW1.out _ (later_below _ _)).mono (fun _ _ h => ⟨h.1, h.2 ▸ Below.refl _ _⟩)))))
          refine wpQuiet_nil ?_
          intro w9 hb9
          go_wp2_with fail
          go_meet
          exact ⟨rfl, hb9⟩
      case rest =>
        obtain ⟨rfl, hb9⟩ := hcut
        obtain ⟨w9, hw9⟩ : ∃ w_, w_ = wc := ⟨_, rfl⟩
        subst hw9
        have hbw9 := hbw8.trans (hb9.mono hb8s)
        have hbr9 := hbr8.trans (hb9.mono hbr8.size)
        have B89 := B8.keep hb9; have B39 := B38.keep hb9
        have hc8 := B89.cell; have hc3 := B39.cell
        have hbd := HDbd.out t.Parent
        cases hp0 : t.Parent == 0
        · rw [hp0] at hdp
          dsimp only at hdp
          have hp0n : (t.Parent != 0) = true := by simp only [bne, hp0]; rfl
          have hw1 : IntKind.i64.wrap (df t.Parent + 1) = df t.Parent + 1 := IntWalk.i64_in _ (by omega)
          go_wp2_with fail
          refine (HDC.out t.Parent w9 hbr9).mono ?_
          rintro e wa ⟨rfl, hba⟩
          have B8a := B89.keep hba; have B3a := B39.keep hba
          have hbra := hbr9.trans (hba.mono hbr9.size)
          clear hc8 hc3
          have hc8 := B8a.cell; have hc3 := B3a.cell
          go_wp2_with fail
          refine (HDC.out t.Id wa hbra).mono ?_
          rintro e wb ⟨rfl, hbb⟩
          rw [hdp]
          have hne : ((df t.Parent + 1) != (df t.Parent + 1)) = false := by simp
          generalize df t.Parent + 1 = dd at *
          go_wp2_with fail
          go_roundw
          case rel => exact ⟨k + 1, by omega, by go_num, (hbw9.trans (hba.mono hbw9.size)).trans (hbb.mono (hbw9.trans (hba.mono hbw9.size)).size)⟩
          case measure => simp [intOf]; omega
        · rw [hp0] at hdp
          dsimp only at hdp
          have hp0n : (t.Parent != 0) = false := by simp only [bne, hp0]; rfl
          go_wp2_with fail
          refine (HDC.out t.Id w9 hbr9).mono ?_
          rintro e wb ⟨rfl, hbb⟩
          rw [hdp]
          go_wp2_with fail
          go_roundw
          case rel => exact ⟨k + 1, by omega, by go_num, hbw9.trans (hbb.mono hbw9.size)⟩
          case measure => simp [intOf]; omega
    · obtain rfl : k = N := by omega
      go_wp2_with fail
      refine (HRC.out wr hbr).mono ?_
      rintro e w8 ⟨cs', v', rfl, hp, hb8⟩
      obtain ⟨AR, cR, B2, d2, rfl, rfl, hrR, hrG2⟩ := pair_rd hp
      clear hp
      have hRl := HRlen.out
      rw [HnG.out, HLn.out] at hRl
      obtain ⟨nR, hnR⟩ : ∃ nR, R.length = nR := ⟨_, rfl⟩
      rw [hnR] at hrR hRl ⊢
      rw [HnG.out]
      have HnR := Lib.hid hnR
      clear hnR
      have hz8 := hb8.size
      have hbX : Below w8.heap.size w8 (w8.alloc (.cells #[.slice AR nR cR] 26)) := by (repeat (first | (with_reducible exact Below.refl _ _) | (with_reducible assumption) | ((with_reducible refine Below.setCell ?_ ?_ _); rotate_left; focus (first | omega | (simp; done) | (simp; omega))) | ((with_reducible refine Below.alloc ?_ ?_ _); rotate_left; focus (first | omega | (simp; done) | (simp; omega))) | (with_reducible refine Below.drew ?_) | (with_reducible refine below_drewN ?_ _) | (refine Below.trans ?_ (Below.mono (by with_reducible assumption) (by (first | omega | (simp; done) | (simp; omega)))))))
      have BX : Blk (w8.alloc (.cells #[.slice AR nR cR] 26)) w8.heap.size 26 #[.slice AR nR cR] := Blk.new' rfl
      have hb89 := hb8.trans (hbX.mono hz8)
      have B39 := B3r.keep hb89
      have hrR9 := hrR.keep hbX hbX.size
      have hrG9 := hrG2.keep hbX hbX.size
      have hbL9 := hb.trans (hb89.mono hzr)
      have hrL9 := hrL7.keep hbL9 hbL9.size
      have hbr9 := hbr.trans (hb89.mono hbr.size)
      clear hc3 hl3
      go_upto_region 22 with fail
      generalize (w8.alloc (.cells #[.slice AR nR cR] 26)) = w9 at *
      obtain ⟨b10, hb10e⟩ : ∃ b, b = w8.heap.size := ⟨_, rfl⟩
      rw [← hb10e] at BX ⊢
      clear hb10e hbX hb8 hb89 hrR hrG2 B3r hz8
      have hNI : ((k : Int) - (nG : Int)) = (nR : Int) := by omega
      have hw1 : IntKind.i64.wrap ((k : Int) - (nG : Int)) = (k : Int) - (nG : Int) := IntWalk.i64_in _ (by omega)
      go_wp2_with fail
      refine (laws_same B2 AL d2 cL nG G w9 hrG9 hrL9 HnG.out (by omega)).mono ?_
      rintro e wa ⟨rfl, hba⟩
      have B3a := B39.keep hba; have BXa := BX.keep hba
      have hrRa := hrR9.keep hba hba.size
      have hbra := hbr9.trans (hba.mono hbr9.size)
      have hc3 := B3a.cell; have hc10 := BXa.cell
      go_wp2_with fail
      refine (spec_ForestOkL [.slice AR nR cR] ⟨R⟩ wa (of_rd_Forest (x := ⟨R⟩) hrRa) (by rw [sz_Forest]; exact HRsz.out)).mono ?_
      rintro e wb ⟨rfl, hbb⟩
      dsimp only
      rw [HRval.out]
      have B3b := B3a.keep hbb
      have hbrb := hbra.trans (hbb.mono hbra.size)
      clear hc3 hc10
      have hc3 := B3b.cell
      go_wp2_with fail
      refine (HAC.out wb hbrb).mono ?_
      rintro e wd ⟨cs', rfl, hoQ, hbd⟩
      obtain ⟨v0, S0, rfl, q, hs⟩ := own_Forest hoQ
      obtain ⟨AQ, cQ, rfl⟩ := q.form
      have hrQ := q.rd (fun g hg => (hs g hg).2)
      dsimp only at hrQ ⊢
      have hQl := HAlen.out
      rw [HLn.out] at hQl
      obtain ⟨nQ, hnQ⟩ : ∃ nQ, Q.length = nQ := ⟨_, rfl⟩
      rw [hnQ] at hrQ hQl ⊢
      clear hoQ q hs hnQ
      have hzd := hbd.size
      have hbY : Below wd.heap.size wd (wd.alloc (.cells #[.slice AQ nQ cQ] 26)) := by (repeat (first | (with_reducible exact Below.refl _ _) | (with_reducible assumption) | ((with_reducible refine Below.setCell ?_ ?_ _); rotate_left; focus (first | omega | (simp; done) | (simp; omega))) | ((with_reducible refine Below.alloc ?_ ?_ _); rotate_left; focus (first | omega | (simp; done) | (simp; omega))) | (with_reducible refine Below.drew ?_) | (with_reducible refine below_drewN ?_ _) | (refine Below.trans ?_ (Below.mono (by with_reducible assumption) (by (first | omega | (simp; done) | (simp; omega)))))))
      have BY : Blk (wd.alloc (.cells #[.slice AQ nQ cQ] 26)) wd.heap.size 26 #[.slice AQ nQ cQ] := Blk.new' rfl
      have hbdY := hbd.trans (hbY.mono hzd)
      have B3Y := B3b.keep hbdY
      have hrQY := hrQ.keep hbY hbY.size
      have hbrY := hbrb.trans (hbdY.mono hbrb.size)
      clear hc3
      go_upto_region 25 with fail
      generalize (wd.alloc (.cells #[.slice AQ nQ cQ] 26)) = we at *
      obtain ⟨b12, hb12e⟩ : ∃ b, b = wd.heap.size := ⟨_, rfl⟩
      rw [← hb12e] at BY ⊢
      clear hb12e hbY hbd hbdY hrQ hzd
      have hc3 := B3Y.cell; have hc12 := BY.cell
      have hNQ : ((k : Int) - 1) = (nQ : Int) := by omega
      have hw2 : IntKind.i64.wrap ((k : Int) - 1) = (k : Int) - 1 := IntWalk.i64_in _ (by omega)
      go_wp2_with fail
      refine (spec_ForestOkL [.slice AQ nQ cQ] ⟨Q⟩ we (of_rd_Forest (x := ⟨Q⟩) hrQY) (by rw [sz_Forest]; exact HAsz.out)).mono ?_
      rintro e wf ⟨rfl, hbf⟩
      dsimp only
      rw [HAval.out]
      have hbz := hbw.trans ((hbrY.trans (hbf.mono hbrY.size)).mono hzw)
      go_wp2
      go_ret
      exact ⟨rfl, hbz⟩
end Go.Proofs.Ytcfhnhhgnophhaa

/- FnRecords: the walk of the law. -/
import Derived.Test.YtndgaakfndokgaaPureRound
import Derived.Test.YtndgaakfndokgaaPkDrawR
import Derived.Test.YtndgaakfndokgaaAtLib
import Derived.Test.YtndgaakfndokgaaPkRecs
import Derived.Test.YtndgaakfndokgaaEncodeL
import Derived.Test.YtndgaakfndokgaaFrameL
import Derived.Test.YtndgaakfndokgaaDecL
import Derived.Test.YtndgaakfndokgaaScanL
set_option linter.unusedSimpArgs false
set_option linter.unusedVariables false
set_option maxRecDepth 20000
namespace Go.Proofs.Ytndgaakfndokgaa
open Go.RowKit
set_option maxHeartbeats 12800000 in
theorem law_FnRecords (v_code : Value) (code : List UInt8) (w : World) (hr_code : SlRd byteR w w.heap.size v_code code) :
    Calls Try.prog 3 #[v_code] w fun e w' => e = .returned (.bool true) ∧ Below w.heap.size w w' := by
  obtain ⟨i0, hi0, hI0, hI1, hI2⟩ := info_parts info_uint8
  obtain ⟨A0, c0, rfl⟩ := SlRd.form hr_code
  obtain ⟨-, hrd, hcap1, hcap2⟩ := rd_ByteS hr_code
  have HBig := Lib.hid (fun (w' : World) => laws_big A0 code.length c0 w' (by omega))
  by_cases hbig : 1048576 < code.length
  · have hd : decide ((1048576 : Int) < (code.length : Int)) = true := by simp; omega
    rw [hd] at HBig
    go_enter Try.func3, Try.ntmps3
    go_wp2_with fail
    refine (HBig.out _).mono ?_
    rintro e w' ⟨rfl, rfl⟩
    go_wp2
    go_ret
    exact ⟨rfl, by (repeat (first | (with_reducible exact Below.refl _ _) | (with_reducible assumption) | ((with_reducible refine Below.setCell ?_ ?_ _); rotate_left; focus (first | omega | (simp; done) | (simp; omega))) | ((with_reducible refine Below.alloc ?_ ?_ _); rotate_left; focus (first | omega | (simp; done) | (simp; omega))) | (with_reducible refine Below.drew ?_) | (with_reducible refine below_drewN ?_ _) | (refine Below.trans ?_ (Below.mono (by with_reducible assumption) (by (first | omega | (simp; done) | (simp; omega)))))))⟩
  have hd : decide ((1048576 : Int) < (code.length : Int)) = false := by simp; omega
  rw [hd] at HBig
  have HD := Lib.hid (fun (w' : World) (hb : Below w.heap.size w w') => spec_DrawEncodeRecord A0 c0 code w' (hrd.keep hb hb.size) (by omega))
  have HAt0 := Lib.hid (fun (w' : World) (hb : Below w.heap.size w w') => laws_at A0 c0 code 0 w' (hrd.keep hb hb.size) (by omega) (by omega))
  have HAt1 := Lib.hid (fun (w' : World) (hb : Below w.heap.size w w') => laws_at A0 c0 code 1 w' (hrd.keep hb hb.size) (by omega) (by omega))
  obtain ⟨a0, a1⟩ := atV_bd code 0
  obtain ⟨a2, a3⟩ := atV_bd code 1
  generalize atV code 0 = a at *
  generalize atV code 1 = a' at *
  generalize code.length = n0 at *
  clear hrd hr_code hcap1 hcap2 hbig
  go_enter Try.func3, Try.ntmps3
  go_wp2_with fail
  refine (HBig.out _).mono ?_
  rintro e w' ⟨rfl, rfl⟩
  go_wp2_with fail
  refine (HD.out _ (Below.refl _ _)).mono ?_
  rintro e w1 ⟨d, rfl, hI, hbw⟩
  clear HD HBig
  have q1 := hI.rd1
  have q2 := hI.rd2
  have hsz := hI.sz
  have hn1 := hI.n1
  have hn2 := hI.n2
  clear hI
  obtain ⟨k, xs, A1, c1, ss, A2, c2⟩ := d
  dsimp only at q1 q2 hsz hn1 hn2 ⊢
  obtain ⟨r, rfl, rfl, rfl⟩ : ∃ r : Record, r.Kind = k ∧ r.Nums = xs ∧ r.Texts = ss := ⟨⟨k, xs, ss⟩, rfl, rfl, rfl⟩
  obtain ⟨n1, hl1⟩ : ∃ n, r.Nums.length = n := ⟨_, rfl⟩
  obtain ⟨n2, hl2⟩ : ∃ n, r.Texts.length = n := ⟨_, rfl⟩
  rw [hl1] at q1 hn1 ⊢
  rw [hl2] at q2 hn2 ⊢
  have Hl1 := Lib.hid hl1
  have Hl2 := Lib.hid hl2
  replace q1 := Lib.hid q1
  replace q2 := Lib.hid q2
  have HSz : Hid (RecordR.sz r ≤ 1048576) := Lib.hid (Nat.le_trans hsz (by omega))
  clear hl1 hl2 hsz
  have hbX : Below w1.heap.size w1 (w1.alloc (.cells #[.int .i64 r.Kind, .slice A1 n1 c1, .slice A2 n2 c2] 27)) := by (repeat (first | (with_reducible exact Below.refl _ _) | (with_reducible assumption) | ((with_reducible refine Below.setCell ?_ ?_ _); rotate_left; focus (first | omega | (simp; done) | (simp; omega))) | ((with_reducible refine Below.alloc ?_ ?_ _); rotate_left; focus (first | omega | (simp; done) | (simp; omega))) | (with_reducible refine Below.drew ?_) | (with_reducible refine below_drewN ?_ _) | (refine Below.trans ?_ (Below.mono (by with_reducible assumption) (by (first | omega | (simp; done) | (simp; omega)))))))
  have BX : Blk (w1.alloc (.cells #[.int .i64 r.Kind, .slice A1 n1 c1, .slice A2 n2 c2] 27)) w1.heap.size 27 #[.int .i64 r.Kind, .slice A1 n1 c1, .slice A2 n2 c2] := Blk.new' rfl
  have hsX : Hid (w1.heap.size + 1 = (w1.alloc (.cells #[.int .i64 r.Kind, .slice A1 n1 c1, .slice A2 n2 c2] 27)).heap.size) := Lib.hid (by simp)
  replace hbw := hbw.trans (hbX.mono hbw.size)
  replace q1 := Lib.hid (q1.out.keep hbX hbX.size)
  replace q2 := Lib.hid (q2.out.keep hbX hbX.size)
  go_upto_region 4 with fail
  generalize (w1.alloc (.cells #[.int .i64 r.Kind, .slice A1 n1 c1, .slice A2 n2 c2] 27)) = v1 at *
  obtain ⟨b3, hbe⟩ : ∃ b, b = w1.heap.size := ⟨_, rfl⟩
  rw [← hbe] at BX ⊢
  have hlX := hsX.out
  rw [← hbe] at hlX
  have hl3 : b3 < v1.heap.size := by omega
  clear hbe hbX hsX hlX
  have B3 := BX
  clear BX
  have hc3 := B3.cell
  have HC := spec_EncodeRecordL [.int .i64 r.Kind, .slice A1 n1 c1, .slice A2 n2 c2] r v1 (of_rd_Record (x := r) q1.out q2.out) HSz.out
  cases hok : encOk r
  · rw [hok] at HC
    go_wp2_with fail
    refine HC.mono ?_
    rintro e wz ⟨v, rfl, -, hb⟩
    have hbz := hbw.trans (hb.mono hbw.size)
    go_wp2
    go_ret
    exact ⟨rfl, hbz⟩
  rw [hok] at HC
  have HDe := Lib.hid (dec_enc hok)
  have HMo := Lib.hid (dec_more hok 0)
  obtain ⟨fl1, fl2, fl3⟩ := frame_len hok
  have HS2 : Hid (scanF (frameB r ++ frameB r) = ([r, r], (frameB r ++ frameB r).length, 0)) := Lib.hid (by
    have h := scan_all (rs := [r, r]) (fun q hq => by simp at hq; rw [hq]; exact hok) (by simp only [framesB, List.flatMap_cons, List.flatMap_nil, List.append_nil, List.length_append]; omega)
    simpa [framesB] using h)
  have HS1 := Lib.hid (fun (cut : Nat) (h0 : 0 < cut) (h : cut < (frameB r).length) => scan_cut (rs := [r]) (fun q hq => by simp at hq; rw [hq]; exact hok) hok h0 h (by simp only [framesB, List.flatMap_cons, List.flatMap_nil, List.append_nil, List.length_append, List.length_take]; omega))
  have HS0 : Hid (scanF (frameB r) = ([r], (frameB r).length, 0)) := Lib.hid (by
    have h := scan_all (rs := [r]) (fun q hq => by simp at hq; rw [hq]; exact hok) (by simp only [framesB, List.flatMap_cons, List.flatMap_nil, List.append_nil]; omega)
    simpa [framesB] using h)
  have HF1 : Hid (framesB [r] = frameB r) := Lib.hid (by simp [framesB])
  have HIe := Lib.hid (fun (w' : World) (h1 : SlRd intR w' w'.heap.size (.slice A1 n1 c1) r.Nums) (h2 : SlRd strR w' w'.heap.size (.slice A2 n2 c2) r.Texts) => impl_EncodeRecordL [.int .i64 r.Kind, .slice A1 n1 c1, .slice A2 n2 c2] r w' (of_rd_Record (x := r) h1 h2) HSz.out)
  have HIf := Lib.hid (fun (w' : World) (h1 : SlRd intR w' w'.heap.size (.slice A1 n1 c1) r.Nums) (h2 : SlRd strR w' w'.heap.size (.slice A2 n2 c2) r.Texts) => impl_FrameRecordL [.int .i64 r.Kind, .slice A1 n1 c1, .slice A2 n2 c2] r w' (of_rd_Record (x := r) h1 h2) HSz.out)
  rw [hok] at HIe HIf
  clear hok
  generalize encB r = eb at *
  generalize frameB r = fb at *
  obtain ⟨ne, hne⟩ : ∃ n, eb.length = n := ⟨_, rfl⟩
  obtain ⟨nf, hnf⟩ : ∃ n, fb.length = n := ⟨_, rfl⟩
  rw [hne] at fl1 fl2 fl3
  rw [hnf] at fl1
  have Hne := Lib.hid hne
  have Hnf := Lib.hid hnf
  have hf1 : 9 ≤ nf := by omega
  have hf2 : nf ≤ 4006 := by omega
  clear hne hnf fl1
  go_wp2_with fail
  refine (HC).mono ?_
  rintro e v2 ⟨v, rfl, hoB, hb⟩
  replace hbw := hbw.trans (hb.mono hbw.size)
  replace q1 := Lib.hid (q1.out.keep hb hb.size)
  replace q2 := Lib.hid (q2.out.keep hb hb.size)
  replace B3 := B3.keep hb
  obtain ⟨AW, cW, rfl⟩ := hoB.form
  have rW := hoB.rd (B := v2.heap.size) (fun g hg => hg.2)
  rw [Hne.out] at rW ⊢
  replace rW := Lib.hid rW
  clear hoB
  clear hb HC
  clear hc3
  have hc3 := B3.cell
  go_wp2_with fail
  refine (HIe.out _ q1.out q2.out).mono ?_
  rintro e v3 ⟨v, rfl, hoB, hb⟩
  replace hbw := hbw.trans (hb.mono hbw.size)
  replace q1 := Lib.hid (q1.out.keep hb hb.size)
  replace q2 := Lib.hid (q2.out.keep hb hb.size)
  replace B3 := B3.keep hb
  replace rW := Lib.hid (rW.out.keep hb hb.size)
  obtain ⟨AE, cE, rfl⟩ := hoB.form
  have rE := hoB.rd (B := v3.heap.size) (fun g hg => hg.2)
  rw [Hne.out] at rE ⊢
  replace rE := Lib.hid rE
  clear hoB
  clear hb
  clear hc3
  have hc3 := B3.cell
  have HC := laws_sameBytes AE AW cE cW ne eb v3 (rd_ByteS rE.out).2.1 (rd_ByteS rW.out).2.1 Hne.out (by omega)
  go_wp2_with fail
  refine (HC).mono ?_
  rintro e v4 ⟨rfl, hb⟩
  replace hbw := hbw.trans (hb.mono hbw.size)
  replace q1 := Lib.hid (q1.out.keep hb hb.size)
  replace q2 := Lib.hid (q2.out.keep hb hb.size)
  replace B3 := B3.keep hb
  replace rW := Lib.hid (rW.out.keep hb hb.size)
  replace rE := Lib.hid (rE.out.keep hb hb.size)
  clear hb HC
  clear rW
  clear hc3
  have hc3 := B3.cell
  have HC := laws_cpBytes AE cE eb v4 (rd_ByteS rE.out).2.1 (by rw [Hne.out]; omega)
  rw [Hne.out] at HC
  go_wp2_with fail
  refine (HC).mono ?_
  rintro e v5 ⟨Ac, cc, rfl, hoC, hb⟩
  replace hbw := hbw.trans (hb.mono hbw.size)
  replace q1 := Lib.hid (q1.out.keep hb hb.size)
  replace q2 := Lib.hid (q2.out.keep hb hb.size)
  replace B3 := B3.keep hb
  replace rE := Lib.hid (rE.out.keep hb hb.size)
  have rC := of_rd_ByteS (xs := eb) (c := cc) (Reads.of_own (by rw [← Hne.out] at hoC; exact hoC)) (by rw [Hne.out]; exact own_cap hoC) (own_max hoC)
  rw [Hne.out] at rC
  clear hoC hb HC
  have HC := impl_DecodeRecord (.slice Ac ne cc) eb v5 rC (by rw [sz_ByteS, Hne.out]; omega)
  rw [HDe.out.1, HDe.out.2] at HC
  clear rC
  clear hc3
  have hc3 := B3.cell
  go_wp2_with fail
  refine (HC).mono ?_
  rintro e v6 ⟨cs', rfl, hoR, hb⟩
  obtain ⟨u0, u1, S0, S1, rfl, s0, s1, t0, t1, -⟩ := own_Record hoR
  obtain ⟨A1D, c1D, rfl⟩ := s0.form
  obtain ⟨A2D, c2D, rfl⟩ := s1.form
  have q1D := s0.rd (fun g hg => (t0 g hg).2)
  have q2D := s1.rd (fun g hg => (t1 g hg).2)
  clear s0 s1 t0 t1 S0 S1 hoR
  rw [Hl1.out] at q1D ⊢
  rw [Hl2.out] at q2D ⊢
  replace q1D := Lib.hid q1D
  replace q2D := Lib.hid q2D
  replace hbw := hbw.trans (hb.mono hbw.size)
  replace q1 := Lib.hid (q1.out.keep hb hb.size)
  replace q2 := Lib.hid (q2.out.keep hb hb.size)
  replace B3 := B3.keep hb
  replace rE := Lib.hid (rE.out.keep hb hb.size)
  clear hb HC HDe
  have hbX : Below v6.heap.size v6 (v6.alloc (.cells #[.int .i64 r.Kind, .slice A1D n1 c1D, .slice A2D n2 c2D] 27)) := by (repeat (first | (with_reducible exact Below.refl _ _) | (with_reducible assumption) | ((with_reducible refine Below.setCell ?_ ?_ _); rotate_left; focus (first | omega | (simp; done) | (simp; omega))) | ((with_reducible refine Below.alloc ?_ ?_ _); rotate_left; focus (first | omega | (simp; done) | (simp; omega))) | (with_reducible refine Below.drew ?_) | (with_reducible refine below_drewN ?_ _) | (refine Below.trans ?_ (Below.mono (by with_reducible assumption) (by (first | omega | (simp; done) | (simp; omega)))))))
  have BX : Blk (v6.alloc (.cells #[.int .i64 r.Kind, .slice A1D n1 c1D, .slice A2D n2 c2D] 27)) v6.heap.size 27 #[.int .i64 r.Kind, .slice A1D n1 c1D, .slice A2D n2 c2D] := Blk.new' rfl
  have hsX : Hid (v6.heap.size + 1 = (v6.alloc (.cells #[.int .i64 r.Kind, .slice A1D n1 c1D, .slice A2D n2 c2D] 27)).heap.size) := Lib.hid (by simp)
  replace hbw := hbw.trans (hbX.mono hbw.size)
  replace q1 := Lib.hid (q1.out.keep hbX hbX.size)
  replace q2 := Lib.hid (q2.out.keep hbX hbX.size)
  replace B3 := B3.keep hbX
  replace rE := Lib.hid (rE.out.keep hbX hbX.size)
  replace q1D := Lib.hid (q1D.out.keep hbX hbX.size)
  replace q2D := Lib.hid (q2D.out.keep hbX hbX.size)
  clear hc3
  go_upto_region 11 with fail
  generalize (v6.alloc (.cells #[.int .i64 r.Kind, .slice A1D n1 c1D, .slice A2D n2 c2D] 27)) = v7 at *
  obtain ⟨b8, hbe⟩ : ∃ b, b = v6.heap.size := ⟨_, rfl⟩
  rw [← hbe] at BX ⊢
  have hlX := hsX.out
  rw [← hbe] at hlX
  have hl8 : b8 < v7.heap.size := by omega
  clear hbe hbX hsX hlX
  have B8 := BX
  clear BX
  have hc3 := B3.cell
  have hc8 := B8.cell
  have HC := laws_cpBytes AE cE eb v7 (rd_ByteS rE.out).2.1 (by rw [Hne.out]; omega)
  rw [Hne.out] at HC
  go_wp2_with fail
  refine (HC).mono ?_
  rintro e v8 ⟨Ac, cc, rfl, hoC, hb⟩
  have hzC := hb.size
  clear HC
  clear hc3
  clear hc8
  go_wp2_with (first | (at_builtin; go_loud (refine wpList_append_own_at _ rfl _ _ 22 rfl v7.heap.size 5 i0 (.int .u8 0) 1 1 Try.underlying22 hi0 hI0 hI1 hI2 rfl (by decide) _ _ _ rfl (hoC.alloc _) ⟨v8.heap.size, 0, none⟩ 1 1 [.int .u8 0] rfl rfl ?c1 ?c2 ?c3 ?c4 ?c5 ?_; (case c1 => exact cell_one_new _ _ _); (case c2 => simp [Value.oneCell']); (case c3 => (simp only [maxLen]; omega)); (case c4 => omega); (case c5 => (simp; omega)); intro v' wX hown1 hgrow hnil hat; obtain ⟨gg, cap, rfl, hg1, hg2⟩ := hown1.form (by omega))))
  have hbX : Below v7.heap.size v7 wX := Below.grown (hb.alloc hzC (.cells #[.int .u8 0] 5)) hgrow (by simp; omega) (fun q e => (hoC.lt q e).1)
  have HC : Hid ((eb ++ [(0 : UInt8)]).length = ne + 1) := Lib.hid (by rw [List.length_append, Hne.out]; rfl)
  have rC := of_rd_ByteS (xs := eb ++ [(0 : UInt8)]) (c := cap) (Reads.of_own (w := wX) (by rw [List.map_append]; exact hown1)) (by rw [HC.out]; exact own_cap hown1) (own_max hown1)
  rw [HC.out] at rC
  replace hbw := hbw.trans (hbX.mono hbw.size)
  replace q1 := Lib.hid (q1.out.keep hbX hbX.size)
  replace q2 := Lib.hid (q2.out.keep hbX hbX.size)
  replace B3 := B3.keep hbX
  replace rE := Lib.hid (rE.out.keep hbX hbX.size)
  replace q1D := Lib.hid (q1D.out.keep hbX hbX.size)
  replace q2D := Lib.hid (q2D.out.keep hbX hbX.size)
  replace B8 := B8.keep hbX
  clear hgrow hown1 hoC hb hbX hzC hat hnil hg1 hg2
  have HC2 := impl_DecodeRecord (.slice (some ⟨gg, 0, none⟩) (ne + 1) cap) (eb ++ [(0 : UInt8)]) wX rC (by rw [sz_ByteS, HC.out]; omega)
  rw [HMo.out] at HC2
  clear rC HC
  generalize decR (eb ++ [(0 : UInt8)]) = rq at *
  refine HC2.mono ?_
  rintro e v9 ⟨cs', rfl, hoR, hb⟩
  obtain ⟨u0, u1, S0, S1, rfl, s0, s1, t0, t1, -⟩ := own_Record hoR
  obtain ⟨A1Q, c1Q, rfl⟩ := s0.form
  obtain ⟨A2Q, c2Q, rfl⟩ := s1.form
  have q1Q := s0.rd (fun g hg => (t0 g hg).2)
  have q2Q := s1.rd (fun g hg => (t1 g hg).2)
  clear s0 s1 t0 t1 S0 S1 hoR
  generalize rq.Nums.length = m1 at *
  generalize rq.Texts.length = m2 at *
  replace hbw := hbw.trans (hb.mono hbw.size)
  replace q1 := Lib.hid (q1.out.keep hb hb.size)
  replace q2 := Lib.hid (q2.out.keep hb hb.size)
  replace B3 := B3.keep hb
  replace rE := Lib.hid (rE.out.keep hb hb.size)
  replace q1D := Lib.hid (q1D.out.keep hb hb.size)
  replace q2D := Lib.hid (q2D.out.keep hb hb.size)
  replace B8 := B8.keep hb
  clear hb HC2 HMo q1Q q2Q
  have hbX : Below v9.heap.size v9 (v9.alloc (.cells #[.int .i64 rq.Kind, .slice A1Q m1 c1Q, .slice A2Q m2 c2Q] 27)) := by (repeat (first | (with_reducible exact Below.refl _ _) | (with_reducible assumption) | ((with_reducible refine Below.setCell ?_ ?_ _); rotate_left; focus (first | omega | (simp; done) | (simp; omega))) | ((with_reducible refine Below.alloc ?_ ?_ _); rotate_left; focus (first | omega | (simp; done) | (simp; omega))) | (with_reducible refine Below.drew ?_) | (with_reducible refine below_drewN ?_ _) | (refine Below.trans ?_ (Below.mono (by with_reducible assumption) (by (first | omega | (simp; done) | (simp; omega)))))))
  have BX : Blk (v9.alloc (.cells #[.int .i64 rq.Kind, .slice A1Q m1 c1Q, .slice A2Q m2 c2Q] 27)) v9.heap.size 27 #[.int .i64 rq.Kind, .slice A1Q m1 c1Q, .slice A2Q m2 c2Q] := Blk.new' rfl
  have hsX : Hid (v9.heap.size + 1 = (v9.alloc (.cells #[.int .i64 rq.Kind, .slice A1Q m1 c1Q, .slice A2Q m2 c2Q] 27)).heap.size) := Lib.hid (by simp)
  replace hbw := hbw.trans (hbX.mono hbw.size)
  replace q1 := Lib.hid (q1.out.keep hbX hbX.size)
  replace q2 := Lib.hid (q2.out.keep hbX hbX.size)
  replace B3 := B3.keep hbX
  replace rE := Lib.hid (rE.out.keep hbX hbX.size)
  replace q1D := Lib.hid (q1D.out.keep hbX hbX.size)
  replace q2D := Lib.hid (q2D.out.keep hbX hbX.size)
  replace B8 := B8.keep hbX
  go_upto_region 12 with fail
  generalize (v9.alloc (.cells #[.int .i64 rq.Kind, .slice A1Q m1 c1Q, .slice A2Q m2 c2Q] 27)) = v10 at *
  obtain ⟨b10, hbe⟩ : ∃ b, b = v9.heap.size := ⟨_, rfl⟩
  rw [← hbe] at BX ⊢
  have hlX := hsX.out
  rw [← hbe] at hlX
  have hl10 : b10 < v10.heap.size := by omega
  clear hbe hbX hsX hlX
  have B10 := BX
  clear BX
  have hc3 := B3.cell
  have hc8 := B8.cell
  clear B10
  have HC := impl_same_rec A1D A2D A1 A2 c1D c2D c1 c2 n1 n2 r v10 q1D.out q2D.out q1.out q2.out (by omega) (by omega)
  go_wp2_with fail
  refine (HC).mono ?_
  rintro e v11 ⟨rfl, hb⟩
  replace hbw := hbw.trans (hb.mono hbw.size)
  replace q1 := Lib.hid (q1.out.keep hb hb.size)
  replace q2 := Lib.hid (q2.out.keep hb hb.size)
  replace B3 := B3.keep hb
  replace rE := Lib.hid (rE.out.keep hb hb.size)
  replace q1D := Lib.hid (q1D.out.keep hb hb.size)
  replace q2D := Lib.hid (q2D.out.keep hb hb.size)
  replace B8 := B8.keep hb
  clear hb HC
  clear q1D
  clear q2D
  clear B8
  clear hc8
  clear hc3
  have hc3 := B3.cell
  go_wp2_with fail
  refine (HIf.out _ q1.out q2.out).mono ?_
  rintro e v12 ⟨v, rfl, hoB, hb⟩
  replace hbw := hbw.trans (hb.mono hbw.size)
  replace q1 := Lib.hid (q1.out.keep hb hb.size)
  replace q2 := Lib.hid (q2.out.keep hb hb.size)
  replace B3 := B3.keep hb
  replace rE := Lib.hid (rE.out.keep hb hb.size)
  obtain ⟨AX, cX, rfl⟩ := hoB.form
  have rX := hoB.rd (B := v12.heap.size) (fun g hg => hg.2)
  rw [Hnf.out] at rX ⊢
  replace rX := Lib.hid rX
  clear hoB
  clear hb HIf
  clear rE
  clear hc3
  have hc3 := B3.cell
  have HC := laws_cpBytes AX cX fb v12 (rd_ByteS rX.out).2.1 (by rw [Hnf.out]; omega)
  rw [Hnf.out] at HC
  go_wp2_with fail
  refine (HC).mono ?_
  rintro e v13 ⟨Ac, cc, rfl, hoC, hb⟩
  have hzC := hb.size
  clear HC
  clear hc3
  have H1 : ∀ u ∈ fb.map byteV, u.oneCell' = true := fun u hu => by obtain ⟨y, -, rfl⟩ := List.mem_map.1 hu; rfl
  have rX1 := (rd_ByteS (SlRd.keep rX.out hb hzC)).2.1
  go_wp2_with (first | (at_builtin; go_loud (refine wpList_append_reads rfl _ _ 22 rfl v12.heap.size 5 i0 (.int .u8 0) 1 1 Try.underlying22 hi0 hI0 hI1 hI2 rfl (by decide) _ _ _ rfl hoC v13.heap.size AX nf cX (fb.map byteV) rfl ?c0 rX1 H1 ?c3 ?c4 ?c5 ?_; (case c0 => rw [List.length_map, Hnf.out, Nat.mul_one]); (case c3 => (simp only [maxLen]; omega)); (case c4 => omega); (case c5 => omega); intro v' wY hown1 hgrow hat; obtain ⟨AL, cL, rfl⟩ := own_slice hown1)))
  have hbX : Below v12.heap.size v12 wY := Below.grown hb hgrow hzC (fun q e => (hoC.lt q e).1)
  have HAll : Hid ((fb ++ fb).length = nf + nf) := Lib.hid (by rw [List.length_append, Hnf.out])
  have rL := of_rd_ByteS (xs := fb ++ fb) (c := cL) (Reads.of_own (by rw [List.map_append]; exact hown1)) (by rw [HAll.out]; exact own_cap hown1) (own_max hown1)
  have hcL := own_cap hown1
  rw [HAll.out] at rL
  replace rL := Lib.hid rL
  replace hbw := hbw.trans (hbX.mono hbw.size)
  replace q1 := Lib.hid (q1.out.keep hbX hbX.size)
  replace q2 := Lib.hid (q2.out.keep hbX hbX.size)
  replace B3 := B3.keep hbX
  replace rX := Lib.hid (rX.out.keep hbX hbX.size)
  clear hgrow hown1 hoC hb hbX hzC hat H1 rX1
  clear rX
  have HC := impl_ScanFramesL (.slice AL (nf + nf) cL) (fb ++ fb) wY rL.out (by rw [sz_ByteS, HAll.out]; omega)
  rw [HS2.out] at HC
  dsimp only at HC
  rw [HAll.out] at HC
  refine HC.mono ?_
  rintro e v14 ⟨v, rfl, hoS, hb⟩
  obtain ⟨AS, cS, rfl⟩ := hoS.form
  have rS := hoS.rd (B := v14.heap.size) (fun g hg => hg.2)
  clear hoS HC
  replace hbw := hbw.trans (hb.mono hbw.size)
  replace q1 := Lib.hid (q1.out.keep hb hb.size)
  replace q2 := Lib.hid (q2.out.keep hb hb.size)
  replace B3 := B3.keep hb
  replace rL := Lib.hid (rL.out.keep hb hb.size)
  clear hb
  have hc3 := B3.cell
  obtain ⟨bS, oS, A1S, c1S, A2S, c2S, rfl, hbS, q1S, q2S, e0, e1, e2⟩ := rec_elem (k := 1) (r := r) rS rfl
  rw [Hl1.out] at q1S e1
  rw [Hl2.out] at q2S e2
  have HSR := Lib.hid (fun (w' : World) (hb : Below v14.heap.size v14 w') => impl_same_rec A1S A2S A1 A2 c1S c2S c1 c2 n1 n2 r w' (q1S.keep hb hb.size) (q2S.keep hb hb.size) (q1.out.keep hb hb.size) (q2.out.keep hb hb.size) (by omega) (by omega))
  clear q1S q2S rS
  have hnn : (((nf : Int) + (nf : Int)) != ((nf : Int) + (nf : Int))) = false := by simp
  have hnn2 : (((nf + nf : Nat) : Int) != ((nf + nf : Nat) : Int)) = false := by simp
  go_upto_region 17 with fail
  have f0 := later_cell e0; have f1 := later_cell e1; have f2 := later_cell e2; have f3 := B3.later
  go_cut [107] (fun s107 wx => s107 = .bool false ∧ Below v14.heap.size v14 wx)
  case first =>
    refine wp_region_later (by kernel_rfl) (by kernel_rfl) ?_
    repeat (first | go_big_quiet_step ((go_at_call 12; with_reducible exact Calls.later_of (HSR.out _ (later_below _ _)))) | quiet_step ((go_at_call 12; with_reducible exact Calls.later_of (HSR.out _ (later_below _ _)))))
    refine wpQuiet_nil ?_
    intro w9 hb9
    go_wp2_with fail
    go_meet
    exact ⟨rfl, hb9⟩
  case rest =>
  obtain ⟨rfl, hb⟩ := hcut
  obtain ⟨w9, hw9⟩ : ∃ w_, w_ = wc := ⟨_, rfl⟩
  subst hw9
  clear f0 f1 f2 f3 e0 e1 e2 HSR hbS
  replace hbw := hbw.trans (hb.mono hbw.size)
  replace q1 := Lib.hid (q1.out.keep hb hb.size)
  replace q2 := Lib.hid (q2.out.keep hb hb.size)
  replace B3 := B3.keep hb
  replace rL := Lib.hid (rL.out.keep hb hb.size)
  clear hb
  clear hc3
  clear B3
  clear q1
  clear q2
  have hm0 : 0 ≤ a * a' := Int.mul_nonneg a0 a2
  have hm1 : a * a' ≤ 255 * 255 := Int.mul_le_mul a1 a3 a2 (by omega)
  obtain ⟨cut, hcut1, hcut2⟩ : ∃ cut : Nat, Int.tmod (a * a') (nf : Int) = cut ∧ cut < nf := by
    have h1 := Int.tmod_nonneg (nf : Int) hm0
    have h2 := Int.tmod_lt_of_pos (a * a') (show (0 : Int) < (nf : Int) by omega)
    exact ⟨(Int.tmod (a * a') (nf : Int)).toNat, by omega, by omega⟩
  have hcut3 : a * a' % (nf : Int) = cut := by rw [← hcut1, Int.tmod_eq_emod_of_nonneg hm0]
  have hw1 : IntKind.i64.wrap (a * a') = a * a' := IntWalk.i64_in _ (by omega)
  have hnz : ((nf : Int) == 0) = false := by simp; omega
  go_wp2_with fail
  refine (HAt0.out _ hbw).mono ?_
  rintro e w' ⟨rfl, rfl⟩
  go_wp2_with fail
  refine (HAt1.out _ hbw).mono ?_
  rintro e w' ⟨rfl, rfl⟩
  have hw2 : IntKind.i64.wrap ((nf : Int) + (cut : Int)) = (nf : Int) + (cut : Int) := IntWalk.i64_in _ (by omega)
  have hw3 : ((nf : Int) + (cut : Int)).toNat = nf + cut := by omega
  have hle : nf + cut ≤ cL := by omega
  go_wp2_with fail

  have HLt : Hid ((fb ++ fb.take cut).length = nf + cut) := Lib.hid (by rw [List.length_append, List.length_take, Hnf.out]; omega)
  have rP := of_rd_ByteS (xs := fb ++ fb.take cut) (c := cL) (Reads.prefix_ (ys := (fb.drop cut).map byteV) (by rw [← List.map_append, List.append_assoc, List.take_append_drop]; exact (rd_ByteS rL.out).2.1)) (by rw [HLt.out]; exact hle) (rd_ByteS rL.out).2.2.2
  rw [HLt.out] at rP
  have HC := impl_ScanFramesL (.slice AL (nf + cut) cL) (fb ++ fb.take cut) w9 rP (by rw [sz_ByteS, HLt.out]; omega)
  clear rP HLt hcut1 hcut3 hw1 hw2 hw3 hm0 hm1 hcL
  have hnn3 : ((nf : Int) == (nf : Int)) = true := by simp
  by_cases hc0 : cut = 0
  · have HSc : Hid (scanF (fb ++ fb.take cut) = ([r], fb.length, 0)) := Lib.hid (by rw [hc0, List.take_zero, List.append_nil]; exact HS0.out)
    rw [HSc.out] at HC
    dsimp only at HC
    rw [Hnf.out] at HC
    have hz : ((cut : Int) == 0) = true := by rw [hc0]; rfl
    refine HC.mono ?_
    rintro e wz ⟨v, rfl, hoS, hb⟩
    obtain ⟨AS, cS, rfl⟩ := hoS.form
    have hbz := hbw.trans (hb.mono hbw.size)
    dsimp only [List.length_cons, List.length_nil]
    clear hoS hc0
    go_wp2
    go_ret
    exact ⟨ret_bool (by first | rfl | (simp; done) | (simp; omega)), hbz⟩
  · have HSc : Hid (scanF (fb ++ fb.take cut) = ([r], fb.length, 1)) := Lib.hid (by have h := HS1.out cut (by omega) (by rw [Hnf.out]; exact hcut2); rw [HF1.out] at h; exact h)
    rw [HSc.out] at HC
    dsimp only at HC
    rw [Hnf.out] at HC
    have hz : ((cut : Int) == 0) = false := by simp; omega
    have hgt : (0 : Int) < (cut : Int) := by omega
    refine HC.mono ?_
    rintro e wz ⟨v, rfl, hoS, hb⟩
    obtain ⟨AS, cS, rfl⟩ := hoS.form
    have hbz := hbw.trans (hb.mono hbw.size)
    dsimp only [List.length_cons, List.length_nil]
    clear hoS hc0
    go_wp2
    go_ret
    exact ⟨ret_bool (by first | rfl | (simp; done) | (simp; omega)), hbz⟩
end Go.Proofs.Ytndgaakfndokgaa

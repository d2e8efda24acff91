/- FnTimers: the walk of the law. -/
import Derived.Test.YthahnaigdoiddaaTimersLib
import Derived.Test.YthahnaigdoiddaaDrawPlay2
import Derived.Test.YthahnaigdoiddaaAtLib
import Derived.Test.YthahnaigdoiddaaByteS2
set_option linter.unusedSimpArgs false
set_option linter.unusedVariables false
set_option maxRecDepth 20000
namespace Go.Proofs.Ythahnaigdoiddaa
open Go.RowKit
set_option maxHeartbeats 12800000 in
theorem law_FnTimers (v_code : Value) (code : List UInt8) (w : World) (hr_code : SlRd byteR w w.heap.size v_code code) :
    Calls Try.prog 3 #[v_code] w fun e w' => e = .returned (.bool true) ∧ Below w.heap.size w w' := by
  obtain ⟨A0, c0, rfl⟩ := SlRd.form hr_code
  obtain ⟨-, hrd, hcap1, hcap2⟩ := rd_ByteS hr_code
  obtain ⟨i0, hi0, hI0, hI1, hI2⟩ := info_parts info_int
  have HBig := Lib.hid (fun (w' : World) => laws_big A0 code.length c0 w' (by omega))
  by_cases hbig : 1048576 < code.length
  · have hd : decide ((1048576 : Int) < (code.length : Int)) = true := by simp; omega
    rw [hd] at HBig
    go_enter Try.func3, Try.ntmps3
    go_wp2_with fail
    refine (HBig.out _).mono ?_
    rintro e w' ⟨rfl, rfl⟩
    go_wp2
    go_ret
    exact ⟨rfl, by (repeat (first | (with_reducible exact Below.refl _ _) | (with_reducible assumption) | ((with_reducible refine Below.setCell ?_ ?_ _); rotate_left; focus (first | omega | (simp; done) | (simp; omega))) | ((with_reducible refine Below.alloc ?_ ?_ _); rotate_left; focus (first | omega | (simp; done) | (simp; omega))) | (with_reducible refine Below.drew ?_) | (with_reducible refine below_drewN ?_ _) | (refine Below.trans ?_ (Below.mono (by with_reducible assumption) (by (first | omega | (simp; done) | (simp; omega)))))))⟩
  have hd : decide ((1048576 : Int) < (code.length : Int)) = false := by simp; omega
  rw [hd] at HBig
  have HD := Lib.hid (fun (w' : World) (hb : Below w.heap.size w w') => spec_DrawPlayClock A0 c0 code w' (hrd.keep hb hb.size) (by omega))
  generalize code.length = n0 at *
  clear hrd hr_code hcap1 hcap2 hbig
  go_enter Try.func3, Try.ntmps3
  go_wp2_with fail
  refine (HBig.out _).mono ?_
  rintro e w' ⟨rfl, rfl⟩
  go_wp2_with fail
  refine (HD.out _ (Below.refl _ _)).mono ?_
  rintro e w1 ⟨know, Ak, nk, ck, Ao, co, ops, rfl, hol, hso, hbw⟩
  have hzw := hbw.size
  have HRun0 := Lib.hid (fun (h : ops.length ≤ 200) => play_yes (opsOk_yes (c := ⟨0, []⟩) (ops := ops) (by decide) h))
  have HFin : Hid (ops.take ops.length = ops) := Lib.hid (List.take_length)
  generalize hn : ops.length = n at *
  have Hn := Lib.hid hn
  clear hn
  have HSo := Lib.hid hso
  have hbA : Below w1.heap.size w1 ((w1.alloc (.cells #[.int .i64 know, .slice Ak nk ck] 26)).alloc (.cells #[.int .i64 0, .slice none 0 0] 26)) := by (repeat (first | (with_reducible exact Below.refl _ _) | (with_reducible assumption) | ((with_reducible refine Below.setCell ?_ ?_ _); rotate_left; focus (first | omega | (simp; done) | (simp; omega))) | ((with_reducible refine Below.alloc ?_ ?_ _); rotate_left; focus (first | omega | (simp; done) | (simp; omega))) | (with_reducible refine Below.drew ?_) | (with_reducible refine below_drewN ?_ _) | (refine Below.trans ?_ (Below.mono (by with_reducible assumption) (by (first | omega | (simp; done) | (simp; omega)))))))
  have B5 : Blk ((w1.alloc (.cells #[.int .i64 know, .slice Ak nk ck] 26)).alloc (.cells #[.int .i64 0, .slice none 0 0] 26)) (w1.heap.size + 1) 26 #[.int .i64 0, .slice none 0 0] := Blk.new' (by simp)
  have HsA : Hid (w1.heap.size + 2 = ((w1.alloc (.cells #[.int .i64 know, .slice Ak nk ck] 26)).alloc (.cells #[.int .i64 0, .slice none 0 0] 26)).heap.size) := Lib.hid (by simp)
  by_cases hlen : n ≤ 200
  rotate_left
  · have hlI : decide ((200 : Int) < (n : Int)) = true := by simp; omega
    go_wp2
    go_ret
    exact ⟨rfl, by (repeat (first | (with_reducible exact Below.refl _ _) | (with_reducible assumption) | ((with_reducible refine Below.setCell ?_ ?_ _); rotate_left; focus (first | omega | (simp; done) | (simp; omega))) | ((with_reducible refine Below.alloc ?_ ?_ _); rotate_left; focus (first | omega | (simp; done) | (simp; omega))) | (with_reducible refine Below.drew ?_) | (with_reducible refine below_drewN ?_ _) | (refine Below.trans ?_ (Below.mono (by with_reducible assumption) (by (first | omega | (simp; done) | (simp; omega)))))))⟩
  have hlI : decide ((200 : Int) < (n : Int)) = false := by simp; omega
  -- LOOP
  have hlit : World.ownsRow _ _ 3 1 _ _ _ := World.ownsRow_lit (size := 1) ((w1.alloc (.cells #[.int .i64 know, .slice Ak nk ck] 26)).alloc (.cells #[.int .i64 0, .slice none 0 0] 26)) #[] 0 (Nat.le_refl _) (by simp [maxLen]) rfl
  have hlit2 : World.ownsRow (((w1.alloc (.cells #[.int .i64 know, .slice Ak nk ck] 26)).alloc (.cells #[.int .i64 0, .slice none 0 0] 26)).alloc (.cells #[] 3)) (w1.heap.size + 2) 3 1 (.slice (some ⟨w1.heap.size + 2, 0, none⟩) 0 0) 0 [] := by simpa using own_base hlit (by simp)
  have B5a := B5.alloc (.cells #[] 3)
  have hbA2 : Below w1.heap.size w1 (((w1.alloc (.cells #[.int .i64 know, .slice Ak nk ck] 26)).alloc (.cells #[.int .i64 0, .slice none 0 0] 26)).alloc (.cells #[] 3)) := by (repeat (first | (with_reducible exact Below.refl _ _) | (with_reducible assumption) | ((with_reducible refine Below.setCell ?_ ?_ _); rotate_left; focus (first | omega | (simp; done) | (simp; omega))) | ((with_reducible refine Below.alloc ?_ ?_ _); rotate_left; focus (first | omega | (simp; done) | (simp; omega))) | (with_reducible refine Below.drew ?_) | (with_reducible refine below_drewN ?_ _) | (refine Below.trans ?_ (Below.mono (by with_reducible assumption) (by (first | omega | (simp; done) | (simp; omega)))))))
  have HsB : Hid (w1.heap.size + 3 = ((((w1.alloc (.cells #[.int .i64 know, .slice Ak nk ck] 26)).alloc (.cells #[.int .i64 0, .slice none 0 0] 26)).alloc (.cells #[] 3))).heap.size) := Lib.hid (by simp)
  clear hlit B5 hbA HsA
  go_wp2_with fail
  generalize (((w1.alloc (.cells #[.int .i64 know, .slice Ak nk ck] 26)).alloc (.cells #[.int .i64 0, .slice none 0 0] 26)).alloc (.cells #[] 3)) = wb at *
  have hsB := HsB.out
  obtain ⟨b5, hb5⟩ : ∃ b5, b5 = w1.heap.size + 1 := ⟨_, rfl⟩
  rw [show w1.heap.size + 2 = b5 + 1 by omega] at hlit2 ⊢
  rw [← hb5] at B5a ⊢
  have hb51 : w1.heap.size ≤ b5 := by omega
  have hsB5 : b5 + 2 = wb.heap.size := by omega
  clear hb5 HsB hsB
  go_loopw [6, 7] (fun al i wr => ∃ (k : Nat) (cur : Clock) (A : Option Addr) (t d m : Nat) (B : Option Addr) (dB : Nat) (ys : List Int), k ≤ n ∧ m ≤ 300 * k ∧ i = .int .i64 k ∧ al = .slice B m dB ∧ Below w1.heap.size w1 wr ∧ Blk wr b5 26 #[.int .i64 cur.Now, .slice A t d] ∧ Hid (cur.Timers.length = t) ∧ Hid (ys.length = m) ∧ Hid (wr.ownsRow (b5 + 1) 3 1 (.slice B m dB) m (ys.map intV)) ∧ Hid (ClkIn wr (fun g => (Value.slice B m dB).ownBlock = some g ∨ g = b5) A d cur.Timers) ∧ Hid (runP ⟨0, []⟩ (ops.take k) = (cur, ys)) ∧ Hid (clockOk cur.Now cur.Timers = true)) (fun _ i _ => n - (intOf i).toNat)
  case atStart => exact ⟨0, ⟨0, []⟩, none, 0, 0, 0, some ⟨b5 + 1, 0, none⟩, 0, [], Nat.zero_le _, Nat.zero_le _, rfl, rfl, hbA2, B5a, rfl, rfl, Lib.hid hlit2, Lib.hid ⟨fun h => absurd h (by simp), Nat.le_refl _, by omega, fun _ _ _ h => by cases h⟩, Lib.hid (run_zero _ _), Lib.hid (by decide)⟩
  case round =>
    clear hbA2 B5a hlit2 hsB5
    obtain ⟨k, cur, A, t, d, m, B, dB, ys, hk, hmk, rfl, rfl, hb, B5, HT, HYs, HI, HC, HRun, HOK⟩ := hrel
    have hl5 := B5.lt
    have hzr := hb.size
    by_cases hlt : k < n
    rotate_left
    · obtain rfl : k = n := by omega
      have HF2 : Hid (runP ⟨0, []⟩ ops = (cur, ys)) := Lib.hid (by rw [← HRun.out, HFin.out])
      have HPl := HRun0.out hlen
      rw [HF2.out] at HPl
      have hc5 := B5.cell
      have hso2 := HSo.out.keep hb hb.size
      have hk0 : ClkIn wr (fun _ => False) none 0 ([] : List Timer) := ⟨fun h => absurd h (by simp), Nat.le_refl _, by omega, fun _ _ _ h => by cases h⟩
      have hPC := spec_PlayClockL [.int .i64 0, .slice none 0 0] ⟨0, []⟩ (.slice Ao k co) ops wr (hk0.rd (c := ⟨0, []⟩) rfl) hso2 (by rw [sz_Clock, sz_TimerS]; exact Nat.zero_le _) (by rw [sz_ops, Hn.out]; omega)
      rw [HPl.1, HPl.2] at hPC
      dsimp only at hPC
      clear HPl
      go_wp2_with fail
      refine hPC.mono ?_
      rintro e w8 ⟨cs', v', rfl, hp, hb8⟩
      obtain ⟨Sa, Sb, h1, h2, sa, sb, ap⟩ := _root_.id hp
      obtain ⟨DB, db, rfl⟩ := h2.form
      obtain ⟨D, dd, rfl, hcl⟩ := own_clk (ClockR.own_wide h1 sa)
      obtain ⟨hids, -⟩ := hp.ids
      rw [HT.out, HYs.out]
      have hz8 := hb8.size
      have hbN : Below w8.heap.size w8 (w8.alloc (.cells #[.int .i64 cur.Now, .slice D t dd] 26)) := by (repeat (first | (with_reducible exact Below.refl _ _) | (with_reducible assumption) | ((with_reducible refine Below.setCell ?_ ?_ _); rotate_left; focus (first | omega | (simp; done) | (simp; omega))) | ((with_reducible refine Below.alloc ?_ ?_ _); rotate_left; focus (first | omega | (simp; done) | (simp; omega))) | (with_reducible refine Below.drew ?_) | (with_reducible refine below_drewN ?_ _) | (refine Below.trans ?_ (Below.mono (by with_reducible assumption) (by (first | omega | (simp; done) | (simp; omega)))))))
      have BX : Blk (w8.alloc (.cells #[.int .i64 cur.Now, .slice D t dd] 26)) w8.heap.size 26 #[.int .i64 cur.Now, .slice D t dd] := Blk.new' rfl
      have hb8N := hb8.trans (hbN.mono hz8)
      have B5N := B5.keep hb8N
      have hiN := own_below HI.out hb8N
      have hdN := hids.keep hbN hbN.size
      have hbz := hbw.trans ((hb.trans (hb8N.mono hzr)).mono hzw)
      go_upto_region 43 with fail
      generalize (w8.alloc (.cells #[.int .i64 cur.Now, .slice D t dd] 26)) = wx at *
      have hSm := laws_same B DB dB db m ys wx (Reads.of_own hiN) hdN HYs.out (by omega)
      clear hc5
      go_wp2_with fail
      refine hSm.mono ?_
      rintro e wy ⟨rfl, hby⟩
      have BXy := BX.keep hby; have B5y := B5N.keep hby
      have hcX := BXy.cell; have hc5 := B5y.cell
      have hzx := hb8N.size
      go_wp2
      go_ret
      exact ⟨rfl, hbz.trans (hby.mono hbz.size)⟩
    have hltI : (k : Int) < (n : Int) := by omega
    have hlx : k < ops.length := by rw [Hn.out]; exact hlt
    have HG := Lib.hid (List.getElem?_eq_getElem hlx)
    generalize ops[k]'hlx = op at HG
    clear hlx
    obtain ⟨b, off, rfl, hab, hp0, hp1, hp2⟩ := op_elem HSo.out HG.out
    have hq0 := (hb.cell (p := ⟨b, off + k * 3, none⟩) hab).trans hp0
    have hq1 := (hb.cell (p := ⟨b, off + k * 3 + 1, none⟩) hab).trans hp1
    have hq2 := (hb.cell (p := ⟨b, off + k * 3 + 2, none⟩) hab).trans hp2
    have hbk := hb.size
    have hab2 : b < wr.heap.size := by omega
    clear hp0 hp1 hp2
    have hc5 := B5.cell
    have hlt0 : ∀ q, (Value.slice B m dB).ownBlock = some q → q < wr.heap.size := fun q e => (HI.out.lt q e).2
    have B8 : Blk (((wr.alloc (.cells #[.int .i64 op.Kind, .int .i64 op.Id, .int .i64 op.At] 32)).alloc (.cells #[.int .i64 cur.Now, .slice A t d] 26))) wr.heap.size 32 #[.int .i64 op.Kind, .int .i64 op.Id, .int .i64 op.At] := (Blk.new' rfl).alloc _
    have B9 : Blk (((wr.alloc (.cells #[.int .i64 op.Kind, .int .i64 op.Id, .int .i64 op.At] 32)).alloc (.cells #[.int .i64 cur.Now, .slice A t d] 26))) (wr.heap.size + 1) 26 #[.int .i64 cur.Now, .slice A t d] := Blk.new' (by simp)
    have hb8 : Below wr.heap.size wr (((wr.alloc (.cells #[.int .i64 op.Kind, .int .i64 op.Id, .int .i64 op.At] 32)).alloc (.cells #[.int .i64 cur.Now, .slice A t d] 26))) := by (repeat (first | (with_reducible exact Below.refl _ _) | (with_reducible assumption) | ((with_reducible refine Below.setCell ?_ ?_ _); rotate_left; focus (first | omega | (simp; done) | (simp; omega))) | ((with_reducible refine Below.alloc ?_ ?_ _); rotate_left; focus (first | omega | (simp; done) | (simp; omega))) | (with_reducible refine Below.drew ?_) | (with_reducible refine below_drewN ?_ _) | (refine Below.trans ?_ (Below.mono (by with_reducible assumption) (by (first | omega | (simp; done) | (simp; omega)))))))
    have B58 := B5.keep hb8
    have HI8 := Lib.hid (own_below HI.out hb8)
    have HC8 := Lib.hid (HC.out.keep hb8)
    have HsW : Hid (wr.heap.size + 2 = (((wr.alloc (.cells #[.int .i64 op.Kind, .int .i64 op.Id, .int .i64 op.At] 32)).alloc (.cells #[.int .i64 cur.Now, .slice A t d] 26))).heap.size) := Lib.hid (by simp)
    go_upto_if 48 with fail
    generalize (((wr.alloc (.cells #[.int .i64 op.Kind, .int .i64 op.Id, .int .i64 op.At] 32)).alloc (.cells #[.int .i64 cur.Now, .slice A t d] 26))) = w8 at *
    have hs8 := HsW.out
    obtain ⟨b8, hb8e⟩ : ∃ b8, b8 = wr.heap.size := ⟨_, rfl⟩
    rw [← hb8e] at B8 B9 ⊢
    have hl0 : ∀ q, (Value.slice B m dB).ownBlock = some q → q < b8 := fun q e => by have := hlt0 q e; omega
    have hbw8 := hb.trans (hb8.mono hzr)
    have hz8 : b8 + 2 ≤ w8.heap.size := by omega
    have h5l : b5 < b8 := by omega
    clear hlt0 HsW hs8 hb8e hc5 hq0 hq1 hq2 HI HC B5 hb8 hl5 hab hab2 hb hbk hzr
    have hc8 := B8.cell; have hc9 := B9.cell; have hc5 := B58.cell; have hf5 := B58.frozen
    cases hk0 : op.Kind == 0
    rotate_left
    · have HRun1 : Hid (runP ⟨0, []⟩ (ops.take (k + 1)) = (setC cur op.Id op.At, ys)) := Lib.hid (by rw [run_snoc HG.out, HRun.out]; exact step_set hk0)
      have HCall := Lib.hid (set_in op.Id op.At w8 HC8.out HT.out HOK.out)
      have HNok := Lib.hid (setC_ok op.Id op.At HOK.out)
      have HAt := Lib.hid (fun h => set_at (c := cur) (id := op.Id) (at_ := op.At) h)
      generalize setC cur op.Id op.At = nx at *
      generalize setB cur op.Id op.At = bb at *
      obtain ⟨nt, hnt⟩ : ∃ nt, nx.Timers.length = nt := ⟨_, rfl⟩
      have HNT := Lib.hid hnt
      clear hnt
      go_wp2_with fail
      refine HCall.out.mono ?_
      rintro e w9 ⟨D, dd, rfl, hcl, hb9⟩
      rw [HNT.out]
      have hz9 := hb9.size
      have hbN : Below w9.heap.size w9 (w9.alloc (.cells #[.int .i64 nx.Now, .slice D nt dd] 26)) := by (repeat (first | (with_reducible exact Below.refl _ _) | (with_reducible assumption) | ((with_reducible refine Below.setCell ?_ ?_ _); rotate_left; focus (first | omega | (simp; done) | (simp; omega))) | ((with_reducible refine Below.alloc ?_ ?_ _); rotate_left; focus (first | omega | (simp; done) | (simp; omega))) | (with_reducible refine Below.drew ?_) | (with_reducible refine below_drewN ?_ _) | (refine Below.trans ?_ (Below.mono (by with_reducible assumption) (by (first | omega | (simp; done) | (simp; omega)))))))
      have BX : Blk (w9.alloc (.cells #[.int .i64 nx.Now, .slice D nt dd] 26)) w9.heap.size 26 #[.int .i64 nx.Now, .slice D nt dd] := Blk.new' rfl
      have B5N := (B58.keep hb9).keep hbN
      have B8N := (B8.keep hb9).keep hbN
      have HIN := Lib.hid (own_below (own_below HI8.out hb9) hbN)
      have HCN := Lib.hid ((hcl.weak (X' := fun g => (Value.slice B m dB).ownBlock = some g ∨ g = b5) (fun q hq => Or.inl (show q < w8.heap.size by rcases hq with hq | rfl; (have := hl0 q hq; omega); omega))).keep hbN)
      have hbwN := (hbw8.trans (hb9.mono hbw8.size)).trans (hbN.mono (by have := hbw8.size; omega))
      have HsN : Hid (w9.heap.size + 1 = (w9.alloc (.cells #[.int .i64 nx.Now, .slice D nt dd] 26)).heap.size) := Lib.hid (by simp)
      clear hc5 hf5
      have hcX := BX.cell; have hcX' := BX.cell; have hc8N := B8N.cell; have hc5N := B5N.cell; have hf5N := B5N.frozen
      have hc8o := (B8.keep hb9).cell; have hl8o := (B8.keep hb9).lt
      have hTA := Lib.hid (fun (w' : World) (hb' : Below (w9.alloc (.cells #[.int .i64 nx.Now, .slice D nt dd] 26)).heap.size (w9.alloc (.cells #[.int .i64 nx.Now, .slice D nt dd] 26)) w') => timerAt_in (n := nt) op.Id w' (HCN.out.keep hb') HNT.out HNok.out)
      
      go_upto_region 16 with fail
      generalize (w9.alloc (.cells #[.int .i64 nx.Now, .slice D nt dd] 26)) = wx at *
      obtain ⟨bX, hbX⟩ : ∃ bX, bX = w9.heap.size := ⟨_, rfl⟩
      rw [← hbX] at BX hcX hcX' ⊢
      have hsX : bX + 1 = wx.heap.size := by have := HsN.out; omega
      clear hbX HsN hbN hc8o hl8o
      have q1 := BX.later
      have q2 := B8N.later
      cases bb
      · skip
        refine wp_region_later (by kernel_rfl) (by kernel_rfl) ?_
        repeat (first | go_big_quiet_step (fail) | quiet_step (fail))
        refine wpQuiet_nil ?_
        intro wz hbz
        have BXZ := BX.keep hbz
        have B5Z := B5N.keep hbz
        have HIZ := own_below HIN.out hbz
        have HCZ := HCN.out.keep hbz
        have hbwZ := hbwN.trans (hbz.mono hbwN.size)
        have hlXZ := BXZ.lt
        clear hcX hcX' hc8N hc5N hf5N q1 q2
        have hcX := BXZ.cell; have hc5Z := B5Z.cell; have hf5Z := B5Z.frozen
        go_wp2_with fail
        go_roundw
        case rel =>
          refine ⟨k + 1, nx, D, nt, dd, m, B, dB, ys, by omega, by omega, by go_num, rfl, ?_, ?_, HNT, HYs, ?_, ?_, HRun1, HNok⟩
          · exact (hbwZ.setCell (by simp; omega) _).setCell (by simp; omega) _
          · have hB := (B5Z.set_ 0 (.int .i64 nx.Now)).set_ 1 (.slice D nt dd)
            simpa using hB
          · exact Lib.hid (own_setCell (own_setCell HIZ (by simp) _) (by simp) _)
          · exact Lib.hid ((HCZ.set (a := ⟨b5, 0, none⟩) (Or.inr rfl) _).set (a := ⟨b5, 1, none⟩) (Or.inr rfl) _)
        case measure => simp [intOf]; omega
      · rw [HAt.out rfl] at hTA
        refine wp_region_later (by kernel_rfl) (by kernel_rfl) ?_
        repeat (first | go_big_quiet_step ((go_at_call 7; exact Calls.later_of (hTA.out _ (later_below _ _)))) | quiet_step ((go_at_call 7; exact Calls.later_of (hTA.out _ (later_below _ _)))))
        refine wpQuiet_nil ?_
        intro wz hbz
        have BXZ := BX.keep hbz
        have B5Z := B5N.keep hbz
        have HIZ := own_below HIN.out hbz
        have HCZ := HCN.out.keep hbz
        have hbwZ := hbwN.trans (hbz.mono hbwN.size)
        have hlXZ := BXZ.lt
        clear hcX hcX' hc8N hc5N hf5N q1 q2
        have hcX := BXZ.cell; have hc5Z := B5Z.cell; have hf5Z := B5Z.frozen
        go_wp2_with fail
        go_roundw
        case rel =>
          refine ⟨k + 1, nx, D, nt, dd, m, B, dB, ys, by omega, by omega, by go_num, rfl, ?_, ?_, HNT, HYs, ?_, ?_, HRun1, HNok⟩
          · exact (hbwZ.setCell (by simp; omega) _).setCell (by simp; omega) _
          · have hB := (B5Z.set_ 0 (.int .i64 nx.Now)).set_ 1 (.slice D nt dd)
            simpa using hB
          · exact Lib.hid (own_setCell (own_setCell HIZ (by simp) _) (by simp) _)
          · exact Lib.hid ((HCZ.set (a := ⟨b5, 0, none⟩) (Or.inr rfl) _).set (a := ⟨b5, 1, none⟩) (Or.inr rfl) _)
        case measure => simp [intOf]; omega
    cases hk1 : op.Kind == 1
    rotate_left
    · have HRun1 : Hid (runP ⟨0, []⟩ (ops.take (k + 1)) = (stopC cur op.Id, ys)) := Lib.hid (by rw [run_snoc HG.out, HRun.out]; exact step_stop hk0 hk1)
      have HCall := Lib.hid (stop_in op.Id w8 HC8.out HT.out HOK.out)
      have HNok := Lib.hid (stopC_ok op.Id HOK.out)
      have HAt := Lib.hid (stop_at cur op.Id HOK.out)
      generalize stopC cur op.Id = nx at *
      generalize stopB cur op.Id = bb at *
      obtain ⟨nt, hnt⟩ : ∃ nt, nx.Timers.length = nt := ⟨_, rfl⟩
      have HNT := Lib.hid hnt
      clear hnt
      go_wp2_with fail
      refine HCall.out.mono ?_
      rintro e w9 ⟨D, dd, rfl, hcl, hb9⟩
      rw [HNT.out]
      have hz9 := hb9.size
      have hbN : Below w9.heap.size w9 (w9.alloc (.cells #[.int .i64 nx.Now, .slice D nt dd] 26)) := by (repeat (first | (with_reducible exact Below.refl _ _) | (with_reducible assumption) | ((with_reducible refine Below.setCell ?_ ?_ _); rotate_left; focus (first | omega | (simp; done) | (simp; omega))) | ((with_reducible refine Below.alloc ?_ ?_ _); rotate_left; focus (first | omega | (simp; done) | (simp; omega))) | (with_reducible refine Below.drew ?_) | (with_reducible refine below_drewN ?_ _) | (refine Below.trans ?_ (Below.mono (by with_reducible assumption) (by (first | omega | (simp; done) | (simp; omega)))))))
      have BX : Blk (w9.alloc (.cells #[.int .i64 nx.Now, .slice D nt dd] 26)) w9.heap.size 26 #[.int .i64 nx.Now, .slice D nt dd] := Blk.new' rfl
      have B5N := (B58.keep hb9).keep hbN
      have B8N := (B8.keep hb9).keep hbN
      have HIN := Lib.hid (own_below (own_below HI8.out hb9) hbN)
      have HCN := Lib.hid ((hcl.weak (X' := fun g => (Value.slice B m dB).ownBlock = some g ∨ g = b5) (fun q hq => Or.inl (show q < w8.heap.size by rcases hq with hq | rfl; (have := hl0 q hq; omega); omega))).keep hbN)
      have hbwN := (hbw8.trans (hb9.mono hbw8.size)).trans (hbN.mono (by have := hbw8.size; omega))
      have HsN : Hid (w9.heap.size + 1 = (w9.alloc (.cells #[.int .i64 nx.Now, .slice D nt dd] 26)).heap.size) := Lib.hid (by simp)
      clear hc5 hf5
      have hcX := BX.cell; have hcX' := BX.cell; have hc8N := B8N.cell; have hc5N := B5N.cell; have hf5N := B5N.frozen
      have hc8o := (B8.keep hb9).cell; have hl8o := (B8.keep hb9).lt
      have hTA := Lib.hid (fun (w' : World) (hb' : Below (w9.alloc (.cells #[.int .i64 nx.Now, .slice D nt dd] 26)).heap.size (w9.alloc (.cells #[.int .i64 nx.Now, .slice D nt dd] 26)) w') => timerAt_in (n := nt) op.Id w' (HCN.out.keep hb') HNT.out HNok.out)
      
      go_upto_region 21 with fail
      generalize (w9.alloc (.cells #[.int .i64 nx.Now, .slice D nt dd] 26)) = wx at *
      obtain ⟨bX, hbX⟩ : ∃ bX, bX = w9.heap.size := ⟨_, rfl⟩
      rw [← hbX] at BX hcX hcX' ⊢
      have hsX : bX + 1 = wx.heap.size := by have := HsN.out; omega
      clear hbX HsN hbN hc8o hl8o
      rw [HAt.out] at hTA
      have q1 := BX.later
      have q2 := B8N.later
      go_wp2_with fail
      refine (hTA.out _ (Below.refl _ _)).mono ?_
      rintro e wz ⟨rfl, hbz⟩
      have BXZ := BX.keep hbz
      have B5Z := B5N.keep hbz
      have HIZ := own_below HIN.out hbz
      have HCZ := HCN.out.keep hbz
      have hbwZ := hbwN.trans (hbz.mono hbwN.size)
      have hlXZ := BXZ.lt
      clear hcX hcX' hc8N hc5N hf5N q1 q2
      have hcX := BXZ.cell; have hc5Z := B5Z.cell; have hf5Z := B5Z.frozen
      go_wp2_with fail
      go_roundw
      case rel =>
        refine ⟨k + 1, nx, D, nt, dd, m, B, dB, ys, by omega, by omega, by go_num, rfl, ?_, ?_, HNT, HYs, ?_, ?_, HRun1, HNok⟩
        · exact (hbwZ.setCell (by simp; omega) _).setCell (by simp; omega) _
        · have hB := (B5Z.set_ 0 (.int .i64 nx.Now)).set_ 1 (.slice D nt dd)
          simpa using hB
        · exact Lib.hid (own_setCell (own_setCell HIZ (by simp) _) (by simp) _)
        · exact Lib.hid ((HCZ.set (a := ⟨b5, 0, none⟩) (Or.inr rfl) _).set (a := ⟨b5, 1, none⟩) (Or.inr rfl) _)
      case measure => simp [intOf]; omega
    cases hk2 : op.Kind == 2
    · have HRun1 : Hid (runP ⟨0, []⟩ (ops.take (k + 1)) = (cur, ys)) := Lib.hid (by rw [run_snoc HG.out, HRun.out]; exact step_no hk0 hk1 hk2)
      go_wp2_with fail
      go_roundw
      case rel => exact ⟨k + 1, cur, A, t, d, m, B, dB, ys, by omega, by omega, by go_num, rfl, hbw8, B58, HT, HYs, HI8, HC8, HRun1, HOK⟩
      case measure => simp [intOf]; omega
    · have HRun1 : Hid (runP ⟨0, []⟩ (ops.take (k + 1)) = (advC cur op.At, ys ++ advI cur op.At)) := Lib.hid (by rw [run_snoc HG.out, HRun.out]; exact step_adv hk0 hk1 hk2)
      have HDue := Lib.hid (dueBy_in op.At w8 HC8.out HT.out HOK.out)
      have HAdv := Lib.hid (fun (w' : World) (hb' : Below w8.heap.size w8 w') => adv_in op.At w' (HC8.out.keep hb') HT.out HOK.out)
      have HNok := Lib.hid (advC_ok op.At HOK.out)
      have HLen := Lib.hid (fun h1 h2 => adv_due (c := cur) (now := op.At) HOK.out h1 h2)
      have HTold := Lib.hid (fun (j : Nat) (hj : j < (advI cur op.At).length) => adv_told (c := cur) (now := op.At) HOK.out hj)
      have HNext := Lib.hid (fun h1 h2 h3 => adv_next (c := cur) (now := op.At) HOK.out h1 h2 h3)
      have HZl := advI_len300 op.At HOK.out
      have HLa := Lib.hid (lastA_zero cur op.At)
      generalize dueByF cur.Now cur.Timers op.At = due at *
      generalize advC cur op.At = nx at *
      generalize advI cur op.At = zs at *
      generalize lastA cur op.At = la at *
      obtain ⟨nt, hnt⟩ : ∃ nt, nx.Timers.length = nt := ⟨_, rfl⟩
      have HNT := Lib.hid hnt
      clear hnt
      obtain ⟨mz, hmz⟩ : ∃ mz, zs.length = mz := ⟨_, rfl⟩
      rw [hmz] at HZl
      have HMZ := Lib.hid hmz
      clear hmz
      go_wp2_with fail
      refine HDue.out.mono ?_
      rintro e w9 ⟨rfl, hb9⟩
      have B59 := B58.keep hb9; have B89 := B8.keep hb9; have B99 := B9.keep hb9
      have hz9 := hb9.size
      clear hc8 hc9 hc5 hf5
      have hc8 := B89.cell; have hc5 := B59.cell
      go_wp2_with fail
      refine (HAdv.out _ hb9).mono ?_
      rintro e w10 ⟨D, dd, DB, db, rfl, hcl, hrd, hb10⟩
      rw [HNT.out, HMZ.out]
      have hz10 := hb10.size
      have hbN : Below w10.heap.size w10 (w10.alloc (.cells #[.int .i64 nx.Now, .slice D nt dd] 26)) := by (repeat (first | (with_reducible exact Below.refl _ _) | (with_reducible assumption) | ((with_reducible refine Below.setCell ?_ ?_ _); rotate_left; focus (first | omega | (simp; done) | (simp; omega))) | ((with_reducible refine Below.alloc ?_ ?_ _); rotate_left; focus (first | omega | (simp; done) | (simp; omega))) | (with_reducible refine Below.drew ?_) | (with_reducible refine below_drewN ?_ _) | (refine Below.trans ?_ (Below.mono (by with_reducible assumption) (by (first | omega | (simp; done) | (simp; omega)))))))
      have BX : Blk (w10.alloc (.cells #[.int .i64 nx.Now, .slice D nt dd] 26)) w10.heap.size 26 #[.int .i64 nx.Now, .slice D nt dd] := Blk.new' rfl
      have B5N := (B59.keep hb10).keep hbN
      have B8N := (B89.keep hb10).keep hbN
      have B9N := (B99.keep hb10).keep hbN
      have hb8N := (hb9.trans (hb10.mono hb9.size)).trans (hbN.mono (by omega))
      have HIN := Lib.hid (own_below HI8.out hb8N)
      have HON := Lib.hid (HC8.out.keep hb8N)
      have HCN := Lib.hid ((hcl.weak (X' := fun g => (Value.slice B m dB).ownBlock = some g ∨ g = b5) (fun q hq => Or.inl (show q < w9.heap.size by rcases hq with hq | rfl; (have := hl0 q hq; omega); omega))).keep hbN)
      have HRN := Lib.hid ((hrd.weak (X' := fun g => (Value.slice B m dB).ownBlock = some g ∨ g = b5) (fun q hq => Or.inl (show q < w9.heap.size by rcases hq with hq | rfl; (have := hl0 q hq; omega); omega))).out (T := fun _ => False) (Out.of_below hbN) (fun _ h => h.elim))
      have hbwN := hbw8.trans (hb8N.mono hbw8.size)
      have HsN : Hid (w10.heap.size + 1 = (w10.alloc (.cells #[.int .i64 nx.Now, .slice D nt dd] 26)).heap.size) := Lib.hid (by simp)
      have hlN : w10.heap.size + 1 = (w10.alloc (.cells #[.int .i64 nx.Now, .slice D nt dd] 26)).heap.size := HsN.out
      go_upto_region 27 with fail
      generalize (w10.alloc (.cells #[.int .i64 nx.Now, .slice D nt dd] 26)) = wx at *
      obtain ⟨bX, hbX⟩ : ∃ bX, bX = w10.heap.size := ⟨_, rfl⟩
      rw [← hbX] at BX ⊢
      have hsX : bX + 1 = wx.heap.size := by omega
      have hlX : w8.heap.size ≤ bX := by omega
      clear hbX HsN hlN hbN hc8 hc5 B58 B8 B9 B59 B89 B99 HI8 HC8 hbw8 hb9 hb10 hcl hrd hb8N HDue HAdv hz9 hz10
      have hc8 := B8N.cell; have hc9 := B9N.cell; have hc5 := B5N.cell
      go_cut [113] (fun s113 wy => s113 = .bool false ∧ wy = wx)
      case first =>
        by_cases h1 : cur.Now ≤ op.At
        · by_cases h2 : op.At ≤ 1000000000
          · have h3 := HLen.out h1 h2
            rw [HMZ.out] at h3
            subst h3
            go_wp2_with fail
            go_meet
            exact ⟨by simp, rfl⟩
          · go_wp2_with fail
            go_meet
            exact ⟨rfl, rfl⟩
        · go_wp2_with fail
          go_meet
          exact ⟨rfl, rfl⟩
      case rest =>
        obtain ⟨rfl, hwx⟩ := hcut
        have hwx2 := hwx.symm
        subst hwx2
        clear hwx
        clear HLen hc8 hc9 hc5
        go_wp2_with fail
        go_loopw [6, 17, 18] (fun tl ll kk wq => ∃ (j : Nat) (B2 : Option Addr) (d2 m2 : Nat), j ≤ mz ∧ m2 ≤ m + j ∧ Hid (m2 = m + j) ∧ kk = .int .i64 j ∧ ll = .int .i64 (la j) ∧ tl = .slice B2 m2 d2 ∧ Below w1.heap.size w1 wq ∧ w1.heap.size ≤ wq.heap.size ∧ Blk wq b5 26 #[.int .i64 cur.Now, .slice A t d] ∧ Blk wq b8 32 #[.int .i64 op.Kind, .int .i64 op.Id, .int .i64 op.At] ∧ Blk wq (b8 + 1) 26 #[.int .i64 cur.Now, .slice A t d] ∧ Blk wq bX 26 #[.int .i64 nx.Now, .slice D nt dd] ∧ Hid (∀ q, (Value.slice B2 m2 d2).ownBlock = some q → q < b8 ∨ bX < q) ∧ Hid (ClkIn wq (fun g => (Value.slice B2 m2 d2).ownBlock = some g ∨ g = b5) A d cur.Timers) ∧ Hid (ClkIn wq (fun g => (Value.slice B2 m2 d2).ownBlock = some g ∨ g = b5) D dd nx.Timers) ∧ Hid (RdIn wq (fun g => (Value.slice B2 m2 d2).ownBlock = some g ∨ g = b5) DB (zs.map intV)) ∧ Hid (wq.ownsRow (b5 + 1) 3 1 (.slice B2 m2 d2) m2 ((ys ++ zs.take j).map intV))) (fun _ _ kk _ => mz - (intOf kk).toNat)
        case atStart => exact ⟨0, B, dB, m, Nat.zero_le _, Nat.le_refl _, Lib.hid rfl, rfl, by rw [HLa.out], rfl, hbwN, hbwN.size, B5N, B8N, B9N, BX, Lib.hid (fun q e => Or.inl (hl0 q e)), HON, HCN, HRN, Lib.hid (by simpa using HIN.out)⟩
        case round =>
          clear HIN HON HCN HRN hl0 hbwN B5N B8N B9N BX
          obtain ⟨j, B2, d2, m2, hj, hm2, HM2, rfl, rfl, rfl, hbwQ, hzQ, B5, B8, B9, BX, HNe, HO, HC, HR, HI⟩ := hrel
          have hlXq := BX.lt
          by_cases hlt2 : j < mz
          · have hltJ : (j : Int) < (mz : Int) := by omega
            have hjz : j < zs.length := by rw [HMZ.out]; exact hlt2
            obtain ⟨a1, a2, a3, a4⟩ := HTold.out j hjz
            have hjm : j < (zs.map intV).length := by simpa using hjz
            obtain ⟨bz, offz, rfl, habz, hcz⟩ := HR.out.1.at_ hjm (Below.refl _ _) (Nat.le_refl _)
            rw [List.getElem_map] at hcz
            simp only [intV] at hcz
            have HZ := Lib.hid (List.getElem?_eq_getElem hjz)
            generalize zs[j]'hjz = z at *
            obtain ⟨x1, hx1⟩ : ∃ x1, la (j + 1) = x1 := ⟨_, rfl⟩
            rw [hx1] at a1 a2 a3
            have HX1 := Lib.hid hx1
            clear hx1
            generalize la j = x0 at *
            clear hjz hjm
            have hT1 := Lib.hid (fun (w' : World) (hb' : Below wr.heap.size wr w') => timerAt_in (n := t) z w' (HO.out.keep hb') HT.out HOK.out)
            rw [a1] at hT1
            have hT2 := Lib.hid (fun (w' : World) (hb' : Below wr.heap.size wr w') => timerAt_in (n := nt) z w' (HC.out.keep hb') HNT.out HNok.out)
            rw [a4] at hT2
            have hd1 : decide (x1 < x0) = false := by simp; omega
            have hd2 : decide (op.At < x1) = false := by simp; omega
            clear a1 a2 a3 a4
            have q1 := B9.later; have q2 := later_cell hcz
            go_wp2_with fail
            refine wp_region_later (by kernel_rfl) (by kernel_rfl) ?_
            repeat (first | go_big_quiet_step ((go_at_call 7; exact Calls.later_of (hT1.out _ (later_below _ _)))) | quiet_step ((go_at_call 7; exact Calls.later_of (hT1.out _ (later_below _ _)))))
            refine wpQuiet_nil ?_
            intro wd hbd
            clear q1 q2
            have B8d := B8.keep hbd; have BXd := BX.keep hbd
            have hczd := (hbd.cell habz).trans hcz
            have q1 := B8d.later; have q2 := BXd.later; have q3 := later_cell hczd
            go_wp2_with fail
            refine wp_region_later (by kernel_rfl) (by kernel_rfl) ?_
            repeat (first | go_big_quiet_step ((go_at_call 7; exact Calls.later_of (hT2.out _ (hbd.trans ((later_below _ _).mono hbd.size))))) | quiet_step ((go_at_call 7; exact Calls.later_of (hT2.out _ (hbd.trans ((later_below _ _).mono hbd.size))))))
            refine wpQuiet_nil ?_
            intro wf hbf
            have hbwf := hbd.trans (hbf.mono hbd.size)
            have hzf := hbwf.size
            have B8f := B8.keep hbwf; have B9f := B9.keep hbwf; have BXf := BX.keep hbwf; have B5f := B5.keep hbwf
            have hcf := (hbwf.cell habz).trans hcz
            have HIf := own_below HI.out hbwf
            clear q1 q2 q3 hczd
            go_wp2_with (first | (at_builtin; go_loud (refine wpList_append_own_at _ rfl _ _ 30 rfl (b5 + 1) 3 i0 (.int .i64 0) 1 8 Try.underlying30 hi0 hI0 hI1 hI2 rfl (by decide) _ _ _ rfl (HIf.alloc _) ⟨(wf).heap.size, 0, none⟩ 1 1 [.int .i64 z] rfl rfl ?c1 ?c2 ?c3 ?c4 ?c5 ?_; (case c1 => exact cell_one_new _ _ _); (case c2 => simp [Value.oneCell']); (case c3 => (simp only [maxLen]; omega)); (case c4 => omega); (case c5 => (simp; omega)); intro v' wA hown1 hgrow hnil hat; obtain ⟨gg, cap, rfl, hg1, hg2⟩ := hown1.form (by omega))))
            go_roundw
            case rel =>
              have hsz : wf.heap.size + 1 ≤ wA.heap.size := by simpa using hgrow.size
              have hne : ∀ q, q < bX + 1 → b8 ≤ q → some q ≠ (Value.slice B2 m2 d2).ownBlock := fun q h1 h2 e => by have := HNe.out q e.symm; omega
              have hne5 : some b5 ≠ (Value.slice B2 m2 d2).ownBlock := fun e => by have := (HI.out.lt _ e.symm).1; omega
              have hXX : ∀ q, (Value.slice (some ⟨gg, 0, none⟩) (m2 + 1) cap).ownBlock = some q ∨ q = b5 → ((Value.slice B2 m2 d2).ownBlock = some q ∨ q = b5) ∨ (wf.alloc (.cells #[.int .i64 z] 3)).heap.size ≤ q := fun q hq => by
                rcases hq with hq | hq
                · rcases hat with h6 | h6
                  · exact Or.inl (Or.inl (h6.symm.trans hq))
                  · have h7 := h6.symm.trans hq
                    simp only [Option.some.injEq] at h7
                    exact Or.inr (by omega)
                · exact Or.inl (Or.inr hq)
              refine ⟨j + 1, some ⟨gg, 0, none⟩, cap, m2 + 1, by omega, by omega, Lib.hid (by have := HM2.out; omega), by go_num, by rw [HX1.out], rfl, ?_, by omega, ?_, ?_, ?_, ?_, ?_, ?_, ?_, ?_, ?_⟩
              · exact Below.grown (hbwQ.trans (hbwf.mono hzQ) |>.alloc (by omega) _) hgrow (by simp; omega) (fun q e => by have := (HI.out.lt q e).1; omega)
              · exact Blk.grown (B5f.alloc _) hgrow hne5
              · exact Blk.grown (B8f.alloc _) hgrow (hne _ (by omega) (by omega))
              · exact Blk.grown (B9f.alloc _) hgrow (hne _ (by omega) (by omega))
              · exact Blk.grown (BXf.alloc _) hgrow (hne _ (by omega) (by omega))
              · exact Lib.hid (fun q e => by
                  rcases hXX q (Or.inl e) with (h6 | h6) | h6
                  · exact HNe.out _ h6
                  · left; omega
                  · right; simp at h6; omega)
              · exact Lib.hid (((HO.out.keep hbwf).keep ((Below.refl _ _).alloc (Nat.le_refl _) (.cells #[.int .i64 z] 3))).grown hgrow (fun q e => Or.inl e) hXX)
              · exact Lib.hid (((HC.out.keep hbwf).keep ((Below.refl _ _).alloc (Nat.le_refl _) (.cells #[.int .i64 z] 3))).grown hgrow (fun q e => Or.inl e) hXX)
              · have hr1 := ((HR.out.out (T := fun _ => False) (Out.of_below hbwf) (fun _ h => h.elim)).out (T := fun _ => False) (Out.of_below ((Below.refl _ _).alloc (Nat.le_refl _) (.cells #[.int .i64 z] 3))) (fun _ h => h.elim))
                have hr2 := hr1.weak (X' := fun q => ((Value.slice B2 m2 d2).ownBlock = some q ∨ q = b5) ∨ ((Value.slice (some ⟨gg, 0, none⟩) (m2 + 1) cap).ownBlock = some q ∨ q = b5)) (fun q hq => by
                  rcases hq with hq | hq
                  · exact Or.inl hq
                  · exact hXX q hq)
                exact Lib.hid ((hr2.out (out_gr hgrow) (fun q e => Or.inl (Or.inl e))).weak (fun q hq => Or.inl (Or.inr hq)))
              · exact Lib.hid (by rw [take_snoc HZ.out, ← List.append_assoc, List.map_append]; exact hown1)
            case measure => simp [intOf]; omega
          · obtain rfl : j = mz := by omega
            have HYZ : Hid (zs.take j = zs) := Lib.hid (List.take_of_length_le (by rw [HMZ.out]; exact Nat.le_refl _))
            have HIe := Lib.hid (by rw [← HYZ.out]; exact HI.out : wr.ownsRow (b5 + 1) 3 1 (.slice B2 m2 d2) m2 ((ys ++ zs).map intV))
            have HYs2 : Hid ((ys ++ zs).length = m2) := Lib.hid (by rw [List.length_append, HYs.out, HMZ.out, HM2.out])
            clear HI HM2
            generalize ys ++ zs = ys2 at *
            have hcX := BX.cell; have hc5 := B5.cell; have hf5 := B5.frozen
            have hl5 := B5.lt
            have hl8 := B8.lt; have hl9 := B9.lt
            have hB5 : Blk ((wr.setCell ⟨b5, 0, none⟩ (.int .i64 nx.Now)).setCell ⟨b5, 1, none⟩ (.slice D nt dd)) b5 26 #[.int .i64 nx.Now, .slice D nt dd] := by have hB := (B5.set_ 0 (.int .i64 nx.Now)).set_ 1 (.slice D nt dd); simpa using hB
            have hB8 := (B8.far (p := ⟨b5, 0, none⟩) (by simp; omega) (.int .i64 nx.Now)).far (p := ⟨b5, 1, none⟩) (by simp; omega) (.slice D nt dd)
            have hB9 := (B9.far (p := ⟨b5, 0, none⟩) (by simp; omega) (.int .i64 nx.Now)).far (p := ⟨b5, 1, none⟩) (by simp; omega) (.slice D nt dd)
            have hIe := Lib.hid (own_setCell (own_setCell HIe.out (a := ⟨b5, 0, none⟩) (by simp) (.int .i64 nx.Now)) (a := ⟨b5, 1, none⟩) (by simp) (.slice D nt dd))
            have hCe := Lib.hid ((HC.out.set (a := ⟨b5, 0, none⟩) (Or.inr rfl) (.int .i64 nx.Now)).set (a := ⟨b5, 1, none⟩) (Or.inr rfl) (.slice D nt dd))
            have hbe : Below w1.heap.size w1 ((wr.setCell ⟨b5, 0, none⟩ (.int .i64 nx.Now)).setCell ⟨b5, 1, none⟩ (.slice D nt dd)) := (hbwQ.setCell (by simp; omega) _).setCell (by simp; omega) _
            go_upto_region 39 with fail
            generalize ((wr.setCell ⟨b5, 0, none⟩ (.int .i64 nx.Now)).setCell ⟨b5, 1, none⟩ (.slice D nt dd)) = ws at *
            clear B5 B8 B9 hcX hc5 hf5 hl5 HIe hl8 hl9
            have hzs := hbe.size
            have hc5 := hB5.cell
            go_wp2_with fail
            refine (nextDue_in (n := nt) ws hCe.out HNT.out HNok.out).mono ?_
            rintro e wn ⟨rfl, hbn⟩
            have hB5n := hB5.keep hbn; have hB8n := hB8.keep hbn; have hB9n := hB9.keep hbn
            clear hc5
            have hc5 := hB5n.cell; have hc8 := hB8n.cell; have hc9 := hB9n.cell
            have HNx := HNext
            generalize nextDueF nx.Now nx.Timers = nd at *
            go_upto_region 40 with fail
            go_cut [174] (fun s174 wy => s174 = .bool false ∧ wy = wn)
            case first =>
              by_cases h0 : 0 ≤ nd
              · by_cases h1 : cur.Now ≤ op.At
                · by_cases h2 : op.At ≤ 1000000000
                  · have h3 := HNx.out h1 h2 h0
                    go_wp2_with fail
                    go_meet
                    exact ⟨by first | rfl | (simp; done) | (simp; omega), rfl⟩
                  · go_wp2_with fail
                    go_meet
                    exact ⟨rfl, rfl⟩
                · go_wp2_with fail
                  go_meet
                  exact ⟨rfl, rfl⟩
              · go_wp2_with fail
                go_meet
                exact ⟨rfl, rfl⟩
            case rest =>
              obtain ⟨rfl, hwx⟩ := hcut
              have hwx2 := hwx.symm
              subst hwx2
              clear hwx hc5 hc8 hc9
              go_wp2_with fail
              go_roundw
              case rel => exact ⟨k + 1, nx, D, nt, dd, m2, B2, d2, ys2, by omega, by omega, by go_num, rfl, hbe.trans (hbn.mono hzs), hB5n, HNT, HYs2, Lib.hid (own_below hIe.out hbn), Lib.hid (hCe.out.keep hbn), HRun1, HNok⟩
              case measure => simp [intOf]; omega
end Go.Proofs.Ythahnaigdoiddaa

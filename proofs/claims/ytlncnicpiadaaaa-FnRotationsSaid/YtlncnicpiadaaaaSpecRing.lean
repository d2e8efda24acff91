/- Boxes and rings of the reference: TagOf, OpenBox, RingOk, RingOpen. -/
import Derived.Test.YtlncnicpiadaaaaSpecBox
import Derived.Test.YtlncnicpiadaaaaImplRing
set_option linter.unusedSimpArgs false
set_option linter.unusedVariables false
set_option maxRecDepth 20000
namespace Go.Proofs.Ytlncnicpiadaaaa
open Go.RowKit
set_option maxHeartbeats 1600000 in
theorem spec_TagOf (K N : Nat) (A : Option Addr) (c : Nat) (xs : List UInt8) (w : World) (hr : Reads w w.heap.size A (xs.map byteV)) (hK : K ≤ 1099511627776) (hN : N ≤ 1099511627776) (hm : xs.length ≤ 2000) :
    Calls Try.prog 56 #[.int .i64 K, .int .i64 N, .slice A xs.length c] w fun e w' => e = .returned (.int .i64 (tagL K N xs)) ∧ Below w.heap.size w w' := by
  unfold tagL
  have HL1 := Lib.hid (wide_len K)
  have HL2 := Lib.hid (wide_len N)
  have HP1 := Lib.hid (fun w => spec_PutWide K w hK)
  have HP2 := Lib.hid (fun w => spec_PutWide N w hN)
  have HK1 := Lib.hid (fun w => spec_l04Key_b (keyOk_of hK) w)
  have HK2 := Lib.hid (fun w => spec_l04Key_b (keyOk_of hN) w)
  generalize wideB K = x1 at *
  generalize wideB N = x2 at *
  have hpl : (x1 ++ x2 ++ xs).length ≤ 1073741824 := by simp [HL1.out, HL2.out]; omega
  have hpl1 : (x1 ++ x2).length ≤ 1073741824 := by simp [HL1.out, HL2.out]
  have HPL := Lib.hid hpl
  have HPL1 := Lib.hid hpl1
  clear hpl hpl1
  have hd : decide ((2000 : Int) < (xs.length : Int)) = false := by simp; omega
  have HJ : Hid (∀ (A1 A2 : Option Addr) (c1 c2 : Nat) (w : World), Reads w w.heap.size A1 (x1.map byteV) → Reads w w.heap.size A2 (x2.map byteV) → Calls Try.prog 71 #[.slice A1 8 c1, .slice A2 8 c2] w fun e w' => ∃ A1 c1, e = .returned (.slice A1 (x1 ++ x2).length c1) ∧ w'.ownsRow w.heap.size 5 1 (.slice A1 (x1 ++ x2).length c1) (x1 ++ x2).length ((x1 ++ x2).map byteV) ∧ Below w.heap.size w w') := Lib.hid (fun A1 A2 c1 c2 w h1 h2 => by
    have := spec_l01Join A1 A2 c1 c2 x1 x2 w h1 h2 (by rw [HL1.out]; omega) (by rw [HL2.out]; omega)
    rw [HL1.out, HL2.out] at this
    exact this)
  have HJ2 := Lib.hid (fun (A1 A2 : Option Addr) (c1 c2 : Nat) (w : World) (h1 : Reads w w.heap.size A1 ((x1 ++ x2).map byteV)) (h2 : Reads w w.heap.size A2 (xs.map byteV)) => spec_l01Join A1 A2 c1 c2 (x1 ++ x2) xs w h1 h2 HPL1.out (by omega))
  have HDg := Lib.hid (fun (A : Option Addr) (c : Nat) (w : World) (h : Reads w w.heap.size A ((x1 ++ x2 ++ xs).map byteV)) => spec_Digest A c (x1 ++ x2 ++ xs) w h HPL.out)
  obtain ⟨zs, hz⟩ : ∃ zs, x1 ++ x2 ++ xs = zs := ⟨_, rfl⟩
  rw [hz] at HDg HJ2 ⊢
  clear hz HPL
  obtain ⟨ys, hy⟩ : ∃ ys, x1 ++ x2 = ys := ⟨_, rfl⟩
  rw [hy] at HJ HJ2
  clear hy HPL1
  generalize digest zs = dg at *
  go_enter Try.func56, Try.ntmps56
  go_wp2_with (go_at_call 55; first | (with_reducible refine (HK1.out _).mono ?_; rintro e w' ⟨rfl, rfl⟩) | (with_reducible refine (HK2.out _).mono ?_; rintro e w' ⟨rfl, rfl⟩))
  refine (HP1.out _).mono ?_
  rintro e w1 ⟨A1, c1, rfl, ho1, hb1⟩
  go_wp2_with fail
  refine (HP2.out _).mono ?_
  rintro e w2 ⟨A2, c2, rfl, ho2, hb2⟩
  have hb12 := hb1.trans (hb2.mono hb1.size)
  have hz2 := hb12.size
  have hr1 := (Reads.of_own ho1).keep hb2 hb2.size
  have hr2 := Reads.of_own ho2
  have hr3 := hr.keep hb12 hz2
  go_wp2_with fail
  refine (HJ.out _ _ _ _ _ hr1 hr2).mono ?_
  rintro e w3 ⟨A3, c3, rfl, ho3, hb3⟩
  have hb123 := hb12.trans (hb3.mono hz2)
  have hr33 := Reads.of_own ho3
  go_wp2_with fail
  refine (HJ2.out _ _ _ _ _ hr33 (hr3.keep hb3 hb3.size)).mono ?_
  rintro e w4 ⟨A4, c4, rfl, ho4, hb4⟩
  have hr4 := Reads.of_own ho4
  go_wp2_with fail
  refine (HDg.out _ _ _ hr4).mono ?_
  rintro e w5 ⟨rfl, rfl⟩
  go_wp2
  go_ret
  exact ⟨rfl, hb123.trans (hb4.mono hb123.size)⟩
set_option maxHeartbeats 1600000 in
theorem spec_OpenBox (K : Nat) (cs : List Value) (b : Box) (w : World) (h : BoxR.Rd w w.heap.size cs b) (hK : K ≤ 1099511627776) (hm : BoxR.sz b ≤ 1048576) :
    Calls Try.prog 35 #[.int .i64 K, .agg cs.toArray] w fun e w' => ∃ A c, e = .returned (.tuple #[.slice A (boxB K b).length c, .bool (boxOk K b)]) ∧ w'.ownsRow w.heap.size 5 1 (.slice A (boxB K b).length c) (boxB K b).length ((boxB K b).map byteV) ∧ Below w.heap.size w w' := by
  obtain ⟨v0, rfl, q0⟩ := rd_Box h
  obtain ⟨A0, c0, rfl⟩ := q0.form
  have r0 := (rd_ByteS q0).2.1
  rw [sz_Box, sz_ByteS] at hm
  clear h q0
  obtain ⟨nonce, xs, tag⟩ := b
  simp only at r0 hm ⊢
  have hbx : Blk (w.alloc (.cells #[.int .i64 nonce, .slice A0 xs.length c0, .int .i64 tag] 36)) w.heap.size 36 #[.int .i64 nonce, .slice A0 xs.length c0, .int .i64 tag] := Blk.new w _ _
  have hbw : Below w.heap.size w (w.alloc (.cells #[.int .i64 nonce, .slice A0 xs.length c0, .int .i64 tag] 36)) := (Below.refl _ _).alloc (Nat.le_refl _) _
  have hkK := keyOk_of hK
  have HIK := Lib.hid (fun w => spec_l04Key_b hkK w)
  cases hk : keyOk nonce
  · have HO := Lib.hid (boxOk_key (K := K) (t := tag) (xs := xs) hk)
    have HI := Lib.hid (fun w => spec_l04Key_b hk w)
    rw [boxB_no HO.out, HO.out]
    go_enter Try.func35, Try.ntmps35
    go_wp2
    generalize (w.alloc (.cells #[.int .i64 nonce, .slice A0 xs.length c0, .int .i64 tag] 36)) = W at *
    have q0 := hbx.later
    refine wp_region_later (by kernel_rfl) (by kernel_rfl) ?_
    repeat (first | go_big_quiet_step ((go_at_call 55; first | (with_reducible exact Calls.later_same (HIK.out _)) | (with_reducible exact Calls.later_same (HI.out _)))) | quiet_step ((go_at_call 55; first | (with_reducible exact Calls.later_same (HIK.out _)) | (with_reducible exact Calls.later_same (HI.out _)))))
    refine wpQuiet_nil ?_
    intro w3 hb3
    go_wp2
    go_ret2
    exact ⟨none, 0, rfl, nil_own _ _, hbw.trans (hb3.mono hbw.size)⟩
  obtain ⟨N, rfl, hN⟩ := keyOk_nat hk
  have HI := Lib.hid (fun w => spec_l04Key_b hk w)
  by_cases hl : xs.length ≤ 2000
  rotate_left
  · have HO := Lib.hid (boxOk_len (K := K) (n := N) (t := tag) (xs := xs) hl)
    have hd : decide ((2000 : Int) < (xs.length : Int)) = true := by simp; omega
    rw [boxB_no HO.out, HO.out]
    go_enter Try.func35, Try.ntmps35
    go_wp2
    generalize (w.alloc (.cells #[.int .i64 (N : Int), .slice A0 xs.length c0, .int .i64 tag] 36)) = W at *
    have q0 := hbx.later
    refine wp_region_later (by kernel_rfl) (by kernel_rfl) ?_
    repeat (first | go_big_quiet_step ((go_at_call 55; first | (with_reducible exact Calls.later_same (HIK.out _)) | (with_reducible exact Calls.later_same (HI.out _)))) | quiet_step ((go_at_call 55; first | (with_reducible exact Calls.later_same (HIK.out _)) | (with_reducible exact Calls.later_same (HI.out _)))))
    refine wpQuiet_nil ?_
    intro w3 hb3
    go_wp2
    go_ret2
    exact ⟨none, 0, rfl, nil_own _ _, hbw.trans (hb3.mono hbw.size)⟩
  have hd : decide ((2000 : Int) < (xs.length : Int)) = false := by simp; omega
  have HO := Lib.hid (boxOk_tag (K := K) (t := tag) hk hl)
  have HT := Lib.hid (fun (w' : World) (hb : Below w.heap.size w w') => spec_TagOf K N A0 c0 xs w' (r0.keep hb hb.size) hK hN hl)
  have HC := Lib.hid (fun (w' : World) (hb : Below w.heap.size w w') => spec_l04Mask K N A0 c0 xs w' (r0.keep hb hb.size) hK hN hl)
  cases ht : tagL K N xs == tag
  · rw [ht] at HO
    have htn : (tagL K N xs != tag) = true := by rw [bne, ht]; rfl
    rw [boxB_no HO.out, HO.out]
    generalize tagL K N xs = tg at *
    go_enter Try.func35, Try.ntmps35
    go_wp2
    generalize (w.alloc (.cells #[.int .i64 (N : Int), .slice A0 xs.length c0, .int .i64 tag] 36)) = W at *
    have q0 := hbx.later
    refine wp_region_later (by kernel_rfl) (by kernel_rfl) ?_
    repeat (first | go_big_quiet_step ((first | (go_at_call 55; first | (with_reducible exact Calls.later_same (HIK.out _)) | (with_reducible exact Calls.later_same (HI.out _))) | (go_at_call 56; exact Calls.later_of (HT.out _ (hbw.trans ((later_below _ _).mono hbw.size)))))) | quiet_step ((first | (go_at_call 55; first | (with_reducible exact Calls.later_same (HIK.out _)) | (with_reducible exact Calls.later_same (HI.out _))) | (go_at_call 56; exact Calls.later_of (HT.out _ (hbw.trans ((later_below _ _).mono hbw.size)))))))
    refine wpQuiet_nil ?_
    intro w3 hb3
    go_wp2
    go_ret2
    exact ⟨none, 0, rfl, nil_own _ _, hbw.trans (hb3.mono hbw.size)⟩
  · rw [ht] at HO
    have htn : (tagL K N xs != tag) = false := by rw [bne, ht]; rfl
    rw [boxB_ok HO.out, HO.out]
    generalize tagL K N xs = tg at *
    have HML := Lib.hid (mask_len K N xs)
    obtain ⟨ys, hy⟩ : ∃ ys, maskB K N xs = ys := ⟨_, rfl⟩
    rw [hy] at HC HML ⊢
    clear hy
    go_enter Try.func35, Try.ntmps35
    go_wp2
    generalize (w.alloc (.cells #[.int .i64 (N : Int), .slice A0 xs.length c0, .int .i64 tag] 36)) = W at *
    have q0 := hbx.later
    refine wp_region_later (by kernel_rfl) (by kernel_rfl) ?_
    repeat (first | go_big_quiet_step ((first | (go_at_call 55; first | (with_reducible exact Calls.later_same (HIK.out _)) | (with_reducible exact Calls.later_same (HI.out _))) | (go_at_call 56; exact Calls.later_of (HT.out _ (hbw.trans ((later_below _ _).mono hbw.size)))))) | quiet_step ((first | (go_at_call 55; first | (with_reducible exact Calls.later_same (HIK.out _)) | (with_reducible exact Calls.later_same (HI.out _))) | (go_at_call 56; exact Calls.later_of (HT.out _ (hbw.trans ((later_below _ _).mono hbw.size)))))))
    refine wpQuiet_nil ?_
    intro w3 hb3
    have BK3 := hbx.keep hb3; have hc3 := BK3.cell; have hf3 := BK3.frozen
    have hb3' : Below w.heap.size w w3 := hbw.trans (hb3.mono hbw.size)
    go_wp2_with fail
    refine (HC.out _ hb3').mono ?_
    rintro e w4 ⟨A1, c1, rfl, ho1, hb4⟩
    go_wp2
    go_ret2
    exact ⟨A1, c1, by rw [HML.out]; rfl, by rw [HML.out]; exact own_base ho1 hb3'.size, hb3'.trans (hb4.mono hb3'.size)⟩
set_option maxHeartbeats 800000 in
theorem spec_RingOk (cs : List Value) (r : KeyRing) (w : World) (h : KeyRingR.Rd w w.heap.size cs r) (hm : KeyRingR.sz r ≤ 1048576) :
    Calls Try.prog 33 #[.agg cs.toArray] w fun e w' => e = .returned (.bool (ringOk r)) ∧ Below w.heap.size w w' := by
  obtain ⟨v0, rfl, q0⟩ := rd_KeyRing h
  obtain ⟨A0, c0, rfl⟩ := q0.form
  have r0 := (rd_IntS q0).2.1
  rw [sz_KeyRing, sz_IntS] at hm
  unfold ringOk
  rw [← Bool.not_not (b := r.Secrets.all keyOk), ← any_keyOk]
  cases h1 : withinB r.First 1 1000000
  · go_enter Try.func33, Try.ntmps33
    go_wp2_with (go_at_call 34; refine (spec_l01In_b h1 _).mono ?_; rintro e w' ⟨rfl, rfl⟩)
    go_ret
    exact ⟨ret_bool (by simp), by (repeat (first | (with_reducible exact Below.refl _ _) | (with_reducible assumption) | ((with_reducible refine Below.setCell ?_ ?_ _); rotate_left; focus (first | omega | (simp; done) | (simp; omega))) | ((with_reducible refine Below.alloc ?_ ?_ _); rotate_left; focus (first | omega | (simp; done) | (simp; omega))) | (with_reducible refine Below.drew ?_) | (with_reducible refine below_drewN ?_ _) | (refine Below.trans ?_ (Below.mono (by with_reducible assumption) (by (first | omega | (simp; done) | (simp; omega)))))))⟩
  cases h2 : withinB r.Secrets.length 1 12
  · go_enter Try.func33, Try.ntmps33
    go_wp2_with (go_at_call 34; first | (with_reducible refine (spec_l01In_b h1 _).mono ?_; rintro e w' ⟨rfl, rfl⟩) | (with_reducible refine (spec_l01In_b h2 _).mono ?_; rintro e w' ⟨rfl, rfl⟩))
    go_ret
    exact ⟨ret_bool (by simp), by (repeat (first | (with_reducible exact Below.refl _ _) | (with_reducible assumption) | ((with_reducible refine Below.setCell ?_ ?_ _); rotate_left; focus (first | omega | (simp; done) | (simp; omega))) | ((with_reducible refine Below.alloc ?_ ?_ _); rotate_left; focus (first | omega | (simp; done) | (simp; omega))) | (with_reducible refine Below.drew ?_) | (with_reducible refine below_drewN ?_ _) | (refine Below.trans ?_ (Below.mono (by with_reducible assumption) (by (first | omega | (simp; done) | (simp; omega)))))))⟩
  obtain ⟨xs, hxs⟩ : ∃ xs, r.Secrets = xs := ⟨_, rfl⟩
  obtain ⟨pr, hpr⟩ : ∃ pr : Int → Bool, pr = fun x => !keyOk x := ⟨_, rfl⟩
  have HK2 : Hid (∀ (x : Int) (w : World) (b : Bool), pr x = b → Calls Try.prog 55 #[.int .i64 x] w fun e w' => e = .returned (.bool (!b)) ∧ w = w') := Lib.hid (by rw [hpr]; intro x w b hb; rw [← hb, Bool.not_not]; exact spec_l04Key x w)
  rw [← hpr]
  rw [hxs] at r0 hm h2 ⊢
  clear hpr hxs q0 h
  generalize hn : xs.length = n at hm h2 ⊢
  have Hn := Lib.hid hn
  clear hn
  go_enter Try.func33, Try.ntmps33
  go_wp2_with (go_at_call 34; first | (with_reducible refine (spec_l01In_b h1 _).mono ?_; rintro e w' ⟨rfl, rfl⟩) | (with_reducible refine (spec_l01In_b h2 _).mono ?_; rintro e w' ⟨rfl, rfl⟩))
  go_loopw [3] (fun i wr => ∃ k : Nat, k ≤ n ∧ i = .int .i64 k ∧ Below w.heap.size w wr ∧ Blk wr w.heap.size 34 #[.int .i64 r.First, .slice A0 n c0] ∧ Hid ((xs.take k).any pr = false)) (fun i _ => n - (intOf i).toNat)
  case atStart => exact ⟨0, Nat.zero_le _, rfl, by (repeat (first | (with_reducible exact Below.refl _ _) | (with_reducible assumption) | ((with_reducible refine Below.setCell ?_ ?_ _); rotate_left; focus (first | omega | (simp; done) | (simp; omega))) | ((with_reducible refine Below.alloc ?_ ?_ _); rotate_left; focus (first | omega | (simp; done) | (simp; omega))) | (with_reducible refine Below.drew ?_) | (with_reducible refine below_drewN ?_ _) | (refine Below.trans ?_ (Below.mono (by with_reducible assumption) (by (first | omega | (simp; done) | (simp; omega))))))), by (repeat (first | (with_reducible assumption) | ((with_reducible refine Blk.new' ?_); focus (simp; done)) | (with_reducible refine Blk.alloc ?_ _) | (with_reducible refine Blk.drew ?_) | (with_reducible refine Blk.drewN ?_ _) | ((with_reducible refine Blk.far ?_ ?_ _); rotate_left; focus (first | omega | (simp; done) | (simp; omega))) | (refine Blk.keep ?_ (by with_reducible assumption)) | (refine Blk.below ?_ (by with_reducible assumption) (by (first | omega | (simp; done) | (simp; omega)))))), Lib.hid rfl⟩
  case round =>
    obtain ⟨k, hk, rfl, hb, hbk, hinv⟩ := hrel
    have hc0 := hbk.cell
    by_cases hlt : k < n
    · have hlx : k < xs.length := by rw [Hn.out]; exact hlt
      obtain ⟨b, off, rfl, hab, hc1⟩ := r0.at_ (by simpa using hlx) hb (Nat.le_refl _)
      rw [List.getElem_map] at hc1
      have HG := Lib.hid (List.getElem?_eq_getElem hlx)
      generalize xs[k]'hlx = y at hc1 HG
      simp only [intV] at hc1
      clear hlx
      cases he : pr y
      · have HE := Lib.hid he
        clear he
        go_wp2_with fail
        refine (HK2.out _ _ _ HE.out).mono ?_
        rintro e w' ⟨rfl, rfl⟩
        go_wp2
        go_roundw
        case rel => exact ⟨k + 1, by omega, by go_num, hb, hbk, Lib.hid (by rw [any_snocK HG.out, hinv.out, HE.out]; rfl)⟩
        case measure => simp [intOf]; omega
      · have HE := Lib.hid he
        clear he
        go_wp2_with fail
        refine (HK2.out _ _ _ HE.out).mono ?_
        rintro e w' ⟨rfl, rfl⟩
        go_wp2
        go_ret
        exact ⟨ret_bool (by rw [anyK_found HG.out HE.out]; rfl), hb⟩
    · go_wp2
      go_ret
      exact ⟨ret_bool (by rw [anyK_none (by rw [Hn.out]; omega) hinv.out]; rfl), hb⟩
end Go.Proofs.Ytlncnicpiadaaaa

/- Boxes and rings of the program: openBox, isRing, ringOpen. -/
import Derived.Test.YtlncnicpiadaaaaImplTag
set_option linter.unusedSimpArgs false
set_option linter.unusedVariables false
set_option maxRecDepth 20000
namespace Go.Proofs.Ytlncnicpiadaaaa
open Go.RowKit
theorem boxOk_key {K : Nat} {n t : Int} {xs : List UInt8} (h : keyOk n = false) : boxOk K ⟨n, xs, t⟩ = false := by unfold boxOk; rw [h]; rfl
theorem boxOk_len {K : Nat} {n t : Int} {xs : List UInt8} (h : ¬ xs.length ≤ 2000) : boxOk K ⟨n, xs, t⟩ = false := by unfold boxOk; rw [decide_eq_false h]; simp
theorem boxOk_tag {K N : Nat} {t : Int} {xs : List UInt8} (h0 : keyOk N = true) (h : xs.length ≤ 2000) : boxOk K ⟨N, xs, t⟩ = (tagL K N xs == t) := by unfold boxOk; rw [h0, decide_eq_true h]; rfl
theorem boxB_no {K : Nat} {b : Box} (h : boxOk K b = false) : boxB K b = [] := by unfold boxB; rw [h]
theorem boxB_ok {K N : Nat} {t : Int} {xs : List UInt8} (h : boxOk K ⟨N, xs, t⟩ = true) : boxB K ⟨N, xs, t⟩ = maskB K N xs := by unfold boxB; rw [h]; rfl
theorem nil_own (w : World) (B : Nat) : w.ownsRow B 5 1 (.slice none ([] : List UInt8).length 0) ([] : List UInt8).length (([] : List UInt8).map byteV) := World.ownsRow_nil _ _ _ _
set_option maxHeartbeats 1600000 in
theorem impl_openBox (K : Nat) (cs : List Value) (b : Box) (w : World) (h : BoxR.Rd w w.heap.size cs b) (hK : K ≤ 1099511627776) (hm : BoxR.sz b ≤ 1048576) :
    Calls Try.prog 61 #[.int .i64 K, .agg cs.toArray] w fun e w' => ∃ A c, e = .returned (.tuple #[.slice A (boxB K b).length c, .bool (boxOk K b)]) ∧ w'.ownsRow w.heap.size 5 1 (.slice A (boxB K b).length c) (boxB K b).length ((boxB K b).map byteV) ∧ Below w.heap.size w w' := by
  obtain ⟨v0, rfl, q0⟩ := rd_Box h
  obtain ⟨A0, c0, rfl⟩ := q0.form
  have r0 := (rd_ByteS q0).2.1
  rw [sz_Box, sz_ByteS] at hm
  clear h q0
  obtain ⟨nonce, xs, tag⟩ := b
  simp only at r0 hm ⊢
  have hbx : Blk (w.alloc (.cells #[.int .i64 nonce, .slice A0 xs.length c0, .int .i64 tag] 36)) w.heap.size 36 #[.int .i64 nonce, .slice A0 xs.length c0, .int .i64 tag] := Blk.new w _ _
  have hbw : Below w.heap.size w (w.alloc (.cells #[.int .i64 nonce, .slice A0 xs.length c0, .int .i64 tag] 36)) := (Below.refl _ _).alloc (Nat.le_refl _) _
  cases hk : keyOk nonce
  · have HO := Lib.hid (boxOk_key (K := K) (t := tag) (xs := xs) hk)
    have HI := Lib.hid (fun w => impl_isKey nonce w)
    rw [boxB_no HO.out, HO.out]
    go_enter Try.func61, Try.ntmps61
    go_wp2
    generalize (w.alloc (.cells #[.int .i64 nonce, .slice A0 xs.length c0, .int .i64 tag] 36)) = W at *
    have q0 := hbx.later
    refine wp_region_later (by kernel_rfl) (by kernel_rfl) ?_
    repeat (first | go_big_quiet_step ((go_at_call 44; exact Calls.later_same (by simpa only [hk] using HI.out _))) | quiet_step ((go_at_call 44; exact Calls.later_same (by simpa only [hk] using HI.out _))))
    refine wpQuiet_nil ?_
    intro w3 hb3
    go_wp2
    go_ret2
    exact ⟨none, 0, rfl, nil_own _ _, hbw.trans (hb3.mono hbw.size)⟩
  obtain ⟨N, rfl, hN⟩ := keyOk_nat hk
  have HI := Lib.hid (fun w => impl_isKey N w)
  by_cases hl : xs.length ≤ 2000
  rotate_left
  · have HO := Lib.hid (boxOk_len (K := K) (n := N) (t := tag) (xs := xs) hl)
    have hd : decide ((2000 : Int) < (xs.length : Int)) = true := by simp; omega
    rw [boxB_no HO.out, HO.out]
    go_enter Try.func61, Try.ntmps61
    go_wp2
    generalize (w.alloc (.cells #[.int .i64 (N : Int), .slice A0 xs.length c0, .int .i64 tag] 36)) = W at *
    have q0 := hbx.later
    refine wp_region_later (by kernel_rfl) (by kernel_rfl) ?_
    repeat (first | go_big_quiet_step ((go_at_call 44; exact Calls.later_same (by simpa only [hk] using HI.out _))) | quiet_step ((go_at_call 44; exact Calls.later_same (by simpa only [hk] using HI.out _))))
    refine wpQuiet_nil ?_
    intro w3 hb3
    go_wp2
    go_ret2
    exact ⟨none, 0, rfl, nil_own _ _, hbw.trans (hb3.mono hbw.size)⟩
  have hd : decide ((2000 : Int) < (xs.length : Int)) = false := by simp; omega
  have HO := Lib.hid (boxOk_tag (K := K) (t := tag) hk hl)
  have HT := Lib.hid (fun (w' : World) (hb : Below w.heap.size w w') => impl_tagOf K N A0 c0 xs w' (r0.keep hb hb.size) hK hN (by omega))
  have HC := Lib.hid (fun (w' : World) (hb : Below w.heap.size w w') => impl_crossed K N A0 c0 xs w' (r0.keep hb hb.size) hK hN hl)
  cases ht : tagL K N xs == tag
  · rw [ht] at HO
    have htn : (tagL K N xs != tag) = true := by rw [bne, ht]; rfl
    rw [boxB_no HO.out, HO.out]
    generalize tagL K N xs = tg at *
    go_enter Try.func61, Try.ntmps61
    go_wp2
    generalize (w.alloc (.cells #[.int .i64 (N : Int), .slice A0 xs.length c0, .int .i64 tag] 36)) = W at *
    have q0 := hbx.later
    refine wp_region_later (by kernel_rfl) (by kernel_rfl) ?_
    repeat (first | go_big_quiet_step ((first | (go_at_call 44; exact Calls.later_same (by simpa only [hk] using HI.out _)) | (go_at_call 75; exact Calls.later_of (HT.out _ (hbw.trans ((later_below _ _).mono hbw.size)))))) | quiet_step ((first | (go_at_call 44; exact Calls.later_same (by simpa only [hk] using HI.out _)) | (go_at_call 75; exact Calls.later_of (HT.out _ (hbw.trans ((later_below _ _).mono hbw.size)))))))
    refine wpQuiet_nil ?_
    intro w3 hb3
    go_wp2
    go_ret2
    exact ⟨none, 0, rfl, nil_own _ _, hbw.trans (hb3.mono hbw.size)⟩
  · rw [ht] at HO
    have htn : (tagL K N xs != tag) = false := by rw [bne, ht]; rfl
    rw [boxB_ok HO.out, HO.out]
    generalize tagL K N xs = tg at *
    have HML := Lib.hid (mask_len K N xs)
    obtain ⟨ys, hy⟩ : ∃ ys, maskB K N xs = ys := ⟨_, rfl⟩
    rw [hy] at HC HML ⊢
    clear hy
    go_enter Try.func61, Try.ntmps61
    go_wp2
    generalize (w.alloc (.cells #[.int .i64 (N : Int), .slice A0 xs.length c0, .int .i64 tag] 36)) = W at *
    have q0 := hbx.later
    refine wp_region_later (by kernel_rfl) (by kernel_rfl) ?_
    repeat (first | go_big_quiet_step ((first | (go_at_call 44; exact Calls.later_same (by simpa only [hk] using HI.out _)) | (go_at_call 75; exact Calls.later_of (HT.out _ (hbw.trans ((later_below _ _).mono hbw.size)))))) | quiet_step ((first | (go_at_call 44; exact Calls.later_same (by simpa only [hk] using HI.out _)) | (go_at_call 75; exact Calls.later_of (HT.out _ (hbw.trans ((later_below _ _).mono hbw.size)))))))
    refine wpQuiet_nil ?_
    intro w3 hb3
    have BK3 := hbx.keep hb3; have hc3 := BK3.cell; have hf3 := BK3.frozen
    have hb3' : Below w.heap.size w w3 := hbw.trans (hb3.mono hbw.size)
    go_wp2_with fail
    refine (HC.out _ hb3').mono ?_
    rintro e w4 ⟨A1, c1, rfl, ho1, hb4⟩
    go_wp2
    go_ret2
    exact ⟨A1, c1, by rw [HML.out]; rfl, by rw [HML.out]; exact own_base ho1 hb3'.size, hb3'.trans (hb4.mono hb3'.size)⟩
theorem impl_isRing_1 (x : Int) (w : World) : Calls Try.prog 60 #[.int .i64 x] w fun e w' => e = .returned (.bool (!keyOk x)) ∧ w = w' := by
  go_enter Try.func60, Try.ntmps60
  go_wp2_with (go_at_call 44; refine (impl_isKey _ _).mono ?_; rintro e w' ⟨rfl, rfl⟩)
  go_ret
  exact ⟨rfl, rfl⟩
end Go.Proofs.Ytlncnicpiadaaaa

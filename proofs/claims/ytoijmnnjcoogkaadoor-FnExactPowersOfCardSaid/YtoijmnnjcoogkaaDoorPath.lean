/- isGlob and isPath of the program. -/
import Derived.Test.YtoijmnnjcoogkaaDoorSplit
set_option linter.unusedSimpArgs false
set_option linter.unusedVariables false
set_option maxRecDepth 20000
namespace Go.Proofs.YtoijmnnjcoogkaaDoor
open Go.RowKit
theorem seg_all : ∀ n : Fin 256, decide (Lib.indexByte (nameBytes ++ [45]) (UInt8.ofNat n.val) < 0) = !segByte (UInt8.ofNat n.val) := by decide +kernel
theorem seg_name (b : UInt8) : decide (Lib.indexByte (nameBytes ++ [45]) b < 0) = !segByte b := by
  have := seg_all ⟨b.toNat, b.toNat_lt⟩
  simpa using this
theorem globOk_long {s : ByteArray} (h : ¬ s.size ≤ 120) : globOk s = false := by unfold globOk; rw [decide_eq_false h]; rfl
theorem globOk_bad {s x : ByteArray} {k : Nat} (h : (segsOf s)[k]? = some x) (hs : segAt (segsOf s).length k x = false) : globOk s = false := by unfold globOk; rw [segsOk_no h hs]; simp
theorem globOk_done {s : ByteArray} (h1 : s.size ≤ 120) (h : segsOk (segsOf s) (segsOf s).length = true) : globOk s = decide ((segsOf s).length ≤ 8) := by unfold globOk; rw [h, decide_eq_true h1]; rfl
theorem segAt_skip {n k : Nat} {x : ByteArray} (h : (isPlus x || (isStar x && decide (k + 1 = n))) = true) : segAt n k x = true := by
  unfold segAt
  cases segOk x
  · rw [Bool.false_or]; exact h
  · rfl
theorem segAt_seg {n k : Nat} {x : ByteArray} (h : (isPlus x || (isStar x && decide (k + 1 = n))) = false) : segAt n k x = segOk x := by
  unfold segAt
  rw [Bool.or_assoc, h, Bool.or_false]
theorem segOk_size {x : ByteArray} (h : withinB x.size 1 16 = false) : segOk x = false := by unfold segOk; rw [h]; rfl
theorem segOk_fit {x : ByteArray} (h : withinB x.size 1 16 = true) : segOk x = strAll segByte x := by unfold segOk; rw [h]; rfl
theorem isPlus_iff (x : ByteArray) : isPlus x = true ↔ x.toList = [43] := by unfold isPlus; rw [ByteArray.toList_eq, beq_iff_eq]
theorem isStar_iff (x : ByteArray) : isStar x = true ↔ x.toList = [42] := by unfold isStar; rw [ByteArray.toList_eq, beq_iff_eq]
set_option maxHeartbeats 3200000 in
theorem impl_isGlob (s : ByteArray) (w : World) (hs : s.size ≤ 9223372036854775807) (hml : MaxLenInt w) :
    Calls Tryd.prog 61 #[.string s] w fun e w' => e = .returned (.bool (globOk s)) ∧ Below w.heap.size w w' := by
  by_cases hl : s.size ≤ 120
  rotate_left
  · have HD := Lib.hid (globOk_long hl)
    have hl2 : decide ((120 : Int) < (s.size : Int)) = true := by simp; omega
    go_enter Tryd.func61, Tryd.ntmps61
    go_wp2
    go_ret
    exact ⟨ret_bool (by rw [HD.out]), Below.refl _ _⟩
  have hlen := segsOf_len s
  have HSZ := Lib.hid (fun x => segsOf_sz (s := s) (x := x))
  have HBAD := Lib.hid (fun x k => globOk_bad (s := s) (x := x) (k := k))
  have HDONE := Lib.hid (globOk_done (s := s) hl)
  have HSP := Lib.hid (strings_Split s w hl hml)
  have HSE := Lib.hid (fun (x al : ByteArray) (h : al.data.toList = nameBytes ++ [45]) (hx : x.size ≤ 9223372036854775807) (w : World) => impl_onlyOf x al segByte (by intro b; rw [h]; exact seg_name b) hx w)
  generalize segsOf s = segs at *
  generalize globOk s = gb at *
  generalize hn : segs.length = n at *
  have Hn := Lib.hid hn
  have hl2 : decide ((120 : Int) < (s.size : Int)) = false := by simp; omega
  clear hn
  go_enter Tryd.func61, Tryd.ntmps61
  go_wp2_with (go_at_call 69; refine HSP.out.mono ?_; rintro e w1 ⟨A, c, rfl, hr, hb1⟩)
  have hz1 := hb1.size
  go_loopw [13] (fun i wr => ∃ k : Nat, k ≤ n ∧ i = .int .i64 k ∧ Still w1 wr ∧ Hid (segsOk segs k = true)) (fun i _ => n - (intOf i).toNat)
  case atStart => exact ⟨0, Nat.zero_le _, rfl, Still.refl _, Lib.hid rfl⟩
  case round =>
    obtain ⟨k, hk, rfl, hst, hinv⟩ := hrel
    have hb := hst.below w1.heap.size
    by_cases hlt : k < n
    · have hlx : k < segs.length := by rw [Hn.out]; exact hlt
      obtain ⟨b, off, rfl, hab, hc1⟩ := hr.at_ (by simpa using hlx) hb (Nat.le_refl _)
      rw [List.getElem_map] at hc1
      have HG := Lib.hid (List.getElem?_eq_getElem hlx)
      have hsx := HSZ.out _ (List.getElem_mem hlx)
      generalize segs[k]'hlx = x at hc1 HG hsx
      clear hlx
      simp only [strV] at hc1
      have hsm : x.size ≤ 9223372036854775807 := by omega
      cases hskip : (isPlus x || (isStar x && decide (k + 1 = n)))
      rotate_left
      · have HN : Hid (segsOk segs (k + 1) = true) := Lib.hid (by rw [segsOk_yes HG.out, hinv.out, Hn.out, segAt_skip hskip]; rfl)
        have hc : (x.toList == [43]) = true ∨ ((x.toList == [43]) = false ∧ (x.toList == [42]) = true ∧ ((k : Int) == (n : Int) - 1) = true) := by
          by_cases hp : x.toList = [43]
          · exact Or.inl (by simpa using hp)
          · refine Or.inr ⟨by simpa using hp, ?_⟩
            have h1 : isPlus x = false := by cases h : isPlus x; rfl; exact absurd ((isPlus_iff x).1 h) hp
            rw [h1, Bool.false_or, Bool.and_eq_true, isStar_iff, decide_eq_true_eq] at hskip
            exact ⟨by simpa using hskip.1, by rw [beq_iff_eq]; omega⟩
        clear hskip
        rcases hc with hc | ⟨hc1', hc2, hc3⟩
        all_goals
          go_wp2
          go_roundw
          case rel => exact ⟨k + 1, by omega, by go_num, by first | exact hst | exact hst.drewN _, HN⟩
          case measure => simp [intOf]; omega
      have HX : Hid (segAt n k x = segOk x) := Lib.hid (segAt_seg hskip)
      have hp : ¬ x.toList = [43] := fun h => by rw [(isPlus_iff x).2 h] at hskip; exact absurd hskip (by simp)
      have hpb : (x.toList == [43]) = false := by simpa using hp
      have hns : (x.toList == [42]) = false ∨ ((x.toList == [42]) = true ∧ ((k : Int) == (n : Int) - 1) = false) := by
        by_cases hst : x.toList = [42]
        · rw [(isStar_iff x).2 hst] at hskip
          have hkn : ¬ k + 1 = n := by intro h; rw [decide_eq_true h] at hskip; exact absurd hskip (by simp)
          exact Or.inr ⟨by simpa using hst, by rw [beq_eq_false_iff_ne]; omega⟩
        · exact Or.inl (by simpa using hst)
      clear hskip
      cases hw : withinB x.size 1 16
      · have HB : Hid (gb = false) := Lib.hid (HBAD.out _ _ HG.out (by rw [HX.out, segOk_size hw]))
        rcases hns with hns | ⟨hns, hns2⟩
        all_goals
          go_wp2_with (first | (go_at_call 59; refine (impl_within_b hw _).mono ?_; rintro e w' ⟨rfl, rfl⟩) | (go_at_call 70; refine (HSE.out _ _ rfl hsm _).mono ?_; rintro e w' ⟨rfl, rfl⟩))
          go_ret
          exact ⟨ret_bool (by rw [HB.out]), by (repeat (first | (with_reducible exact Below.refl _ _) | (with_reducible assumption) | ((with_reducible refine Below.setCell ?_ ?_ _); rotate_left; focus (first | omega | (simp; done) | (simp; omega))) | ((with_reducible refine Below.alloc ?_ ?_ _); rotate_left; focus (first | omega | (simp; done) | (simp; omega))) | (with_reducible refine Below.drew ?_) | (with_reducible refine below_drewN ?_ _) | (refine Below.trans ?_ (Below.mono (by with_reducible assumption) (by (first | omega | (simp; done) | (simp; omega)))))))⟩
      cases ha : strAll segByte x
      · have HB : Hid (gb = false) := Lib.hid (HBAD.out _ _ HG.out (by rw [HX.out, segOk_fit hw, ha]))
        rcases hns with hns | ⟨hns, hns2⟩
        all_goals
          go_wp2_with (first | (go_at_call 59; refine (impl_within_b hw _).mono ?_; rintro e w' ⟨rfl, rfl⟩) | (go_at_call 70; refine (HSE.out _ _ rfl hsm _).mono ?_; rintro e w' ⟨rfl, rfl⟩))
          go_ret
          exact ⟨ret_bool (by rw [HB.out]), by (repeat (first | (with_reducible exact Below.refl _ _) | (with_reducible assumption) | ((with_reducible refine Below.setCell ?_ ?_ _); rotate_left; focus (first | omega | (simp; done) | (simp; omega))) | ((with_reducible refine Below.alloc ?_ ?_ _); rotate_left; focus (first | omega | (simp; done) | (simp; omega))) | (with_reducible refine Below.drew ?_) | (with_reducible refine below_drewN ?_ _) | (refine Below.trans ?_ (Below.mono (by with_reducible assumption) (by (first | omega | (simp; done) | (simp; omega)))))))⟩
      have HN : Hid (segsOk segs (k + 1) = true) := Lib.hid (by rw [segsOk_yes HG.out, hinv.out, Hn.out, HX.out, segOk_fit hw, ha]; rfl)
      rcases hns with hns | ⟨hns, hns2⟩
      all_goals
        go_wp2_with (first | (go_at_call 59; refine (impl_within_b hw _).mono ?_; rintro e w' ⟨rfl, rfl⟩) | (go_at_call 70; refine (HSE.out _ _ rfl hsm _).mono ?_; rintro e w' ⟨rfl, rfl⟩))
        go_roundw
        case rel => exact ⟨k + 1, by omega, by go_num, by first | exact hst | exact hst.drewN _, HN⟩
        case measure => simp [intOf]; omega
    · obtain rfl : k = n := by omega
      have HD : Hid (gb = decide (k ≤ 8)) := Lib.hid (HDONE.out hinv.out)
      go_wp2
      go_ret
      exact ⟨ret_bool (by rw [HD.out, Bool.eq_iff_iff]; simp only [decide_eq_true_eq]; omega), by (repeat (first | (with_reducible exact Below.refl _ _) | (with_reducible assumption) | ((with_reducible refine Below.setCell ?_ ?_ _); rotate_left; focus (first | omega | (simp; done) | (simp; omega))) | ((with_reducible refine Below.alloc ?_ ?_ _); rotate_left; focus (first | omega | (simp; done) | (simp; omega))) | (with_reducible refine Below.drew ?_) | (with_reducible refine below_drewN ?_ _) | (refine Below.trans ?_ (Below.mono (by with_reducible assumption) (by (first | omega | (simp; done) | (simp; omega)))))))⟩
end Go.Proofs.YtoijmnnjcoogkaaDoor

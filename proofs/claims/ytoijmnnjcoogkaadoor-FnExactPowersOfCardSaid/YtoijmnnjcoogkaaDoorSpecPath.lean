/- l01Parts, l01Segment, GlobOk, PathOk of the reference. -/
import Derived.Test.YtoijmnnjcoogkaaDoorParts
set_option linter.unusedSimpArgs false
set_option linter.unusedVariables false
set_option maxRecDepth 20000
namespace Go.Proofs.YtoijmnnjcoogkaaDoor
open Go.RowKit
theorem partsAt_len {c : UInt8} {l : List UInt8} {k at_ : Nat} {ps : List (List UInt8)} (h : PartsAt c l k ps at_) : ps.length ≤ k := by
  have h1 := parts_len (c := c) (l.take k)
  rw [h.2, List.length_append, List.length_take, List.length_singleton] at h1
  omega
theorem extract_part (s : ByteArray) (a k : Nat) : s.extract a k = baOf ((s.data.toList.take k).drop a) := by
  have h : (s.extract a k).data.toList = (s.data.toList.take k).drop a := by rw [Lib.extract_data, List.drop_take]
  rw [← h, baOf_back]
set_option maxHeartbeats 1600000 in
theorem spec_l01Parts (s : ByteArray) (w : World) (hs : s.size ≤ 120) :
    Calls Tryd.prog 67 #[.string s, .int .u8 47] w fun e w' => ∃ A c, e = .returned (.slice A (segsOf s).length c) ∧ Reads w' w'.heap.size A ((segsOf s).map strV) ∧ Below w.heap.size w w' := by
  obtain ⟨i0, hi0, hI0, hI1, hI2⟩ := info_parts info_string
  go_enter Tryd.func67, Tryd.ntmps67
  go_wp2
  go_loopw [5, 6, 7] (fun o at_ i wr => ∃ (k a : Nat) (ps : List (List UInt8)) (n : Nat) (A1 : Option Addr) (c1 : Nat), k ≤ s.size + 1 ∧ n ≤ k ∧ i = .int .i64 k ∧ at_ = .int .i64 a ∧ o = .slice A1 n c1 ∧ wr.ownsRow w.heap.size 9 1 (.slice A1 n c1) n ((ps.map baOf).map strV) ∧ Below w.heap.size w wr ∧ w.heap.size ≤ wr.heap.size ∧ a ≤ k ∧ Hid (ps.length = n) ∧ Hid ((k ≤ s.size ∧ PartsAt 47 s.data.toList k ps a) ∨ (k = s.size + 1 ∧ ps = partsL 47 s.data.toList))) (fun _ _ i _ => s.size + 1 - (intOf i).toNat)
  case atStart => exact ⟨0, 0, [], 0, some ⟨w.heap.size, 0, none⟩, 0, Nat.zero_le _, Nat.le_refl _, rfl, rfl, rfl, World.ownsRow_lit w #[] 0 (Nat.le_refl _) (by simp [maxLen]) rfl, by (repeat (first | (with_reducible exact Below.refl _ _) | (with_reducible assumption) | ((with_reducible refine Below.setCell ?_ ?_ _); rotate_left; focus (first | omega | (simp; done) | (simp; omega))) | ((with_reducible refine Below.alloc ?_ ?_ _); rotate_left; focus (first | omega | (simp; done) | (simp; omega))) | (with_reducible refine Below.drew ?_) | (with_reducible refine below_drewN ?_ _) | (refine Below.trans ?_ (Below.mono (by with_reducible assumption) (by (first | omega | (simp; done) | (simp; omega))))))), by simp, Nat.le_refl _, Lib.hid rfl, Lib.hid (Or.inl ⟨Nat.zero_le _, partsAt_zero _ _⟩)⟩
  case round =>
    obtain ⟨k, a, ps, n, A1, c1, hk, hn, rfl, rfl, rfl, hown, hb, hzr, hak, HL, HI⟩ := hrel
    by_cases hle : k ≤ s.size
    rotate_left
    · have HE : Hid (ps.map baOf = segsOf s) := Lib.hid (by rcases HI.out with h | h; exact absurd h.1 hle; rw [h.2]; rfl)
      have hd : decide ((k : Int) ≤ (s.size : Int)) = false := by simp; omega
      go_wp2
      go_ret
      have hl : (segsOf s).length = n := by rw [← HE.out, List.length_map, HL.out]
      refine ⟨A1, c1, by rw [hl]; rfl, ?_, hb⟩
      rw [← HE.out]
      exact Reads.of_own hown
    have HP : Hid (PartsAt 47 s.data.toList k ps a) := Lib.hid (by rcases HI.out with h | h; exact h.2; omega)
    clear HI
    have HX := Lib.hid (extract_part s a k)
    by_cases hend : k = s.size
    · have hd : ((k : Int) == (s.size : Int)) = true := by rw [beq_iff_eq]; omega
      have HN : Hid (ps ++ [(s.data.toList.take k).drop a] = partsL 47 s.data.toList) := Lib.hid (partsAt_end HP.out (by rw [hend]; exact Nat.le_refl _)).symm
      have hns : n ≤ s.size := by omega
      have HKE := Lib.hid hend
      clear hend
      go_wp2_with (first | (at_builtin; go_loud (refine wpList_append_own_at _ rfl _ _ 46 rfl (w.heap.size) 9 i0 (.string ByteArray.empty) 1 16 Tryd.underlying46 hi0 hI0 hI1 hI2 rfl (by decide) _ _ _ rfl (hown.alloc _) ⟨(wr).heap.size, 0, none⟩ 1 1 [.string (s.extract a k)] rfl rfl ?c1 ?c2 ?c3 ?c4 ?c5 ?_; (case c1 => exact cell_one_new _ _ _); (case c2 => simp [Value.oneCell']); (case c3 => (simp only [maxLen]; omega)); (case c4 => omega); (case c5 => (simp; omega)); intro v' wA hown1 hgrow hnil hat; obtain ⟨gg, cap, rfl, hg1, hg2⟩ := hown1.form (by omega))))
      go_roundw
      case rel =>
        have hsz := hgrow.size
        simp at hsz
        refine ⟨k + 1, k + 1, ps ++ [(s.data.toList.take k).drop a], n + 1, some ⟨gg, 0, none⟩, cap, by omega, by omega, by go_num, by go_num, rfl, ?_, ?_, by omega, by omega, Lib.hid (by rw [List.length_append, HL.out]; rfl), Lib.hid (Or.inr ⟨by rw [HKE.out], HN.out⟩)⟩
        · rw [List.map_append, List.map_append]
          rw [HX.out] at hown1
          exact hown1
        · exact Below.grown (hb.alloc (by omega) _) hgrow (by simp; omega) (fun g e => (hown.lt _ e).1)
      case measure => simp [intOf]; omega
    · have hlt : k < s.size := by omega
      have hd : ((k : Int) == (s.size : Int)) = false := by rw [beq_eq_false_iff_ne]; omega
      have HG : Hid (s.data.toList[k]? = some s[k]) := Lib.hid (by rw [List.getElem?_eq_getElem (by simpa using hlt)]; rfl)
      cases hx : s[k] == 47
      · have hd2 : ((s[k].toNat : Int) == 47) = false := by rw [beq_eq_false_iff_ne] at hx ⊢; intro h; exact hx (UInt8.toNat_inj.1 (by show s[k].toNat = 47; omega))
        have HN : Hid (PartsAt 47 s.data.toList (k + 1) ps a) := Lib.hid (partsAt_miss HP.out HG.out hx)
        clear hx
        go_wp2
        go_roundw
        case rel => exact ⟨k + 1, a, ps, n, A1, c1, by omega, by omega, by go_num, rfl, rfl, hown, hb, hzr, by omega, HL, Lib.hid (Or.inl ⟨by omega, HN.out⟩)⟩
        case measure => simp [intOf]; omega
      · have hd2 : ((s[k].toNat : Int) == 47) = true := by rw [beq_iff_eq] at hx ⊢; rw [hx]; rfl
        have HN : Hid (PartsAt 47 s.data.toList (k + 1) (ps ++ [(s.data.toList.take k).drop a]) (k + 1)) := Lib.hid (partsAt_hit HP.out HG.out hx)
        clear hx
        go_wp2_with (first | (at_builtin; go_loud (refine wpList_append_own_at _ rfl _ _ 46 rfl (w.heap.size) 9 i0 (.string ByteArray.empty) 1 16 Tryd.underlying46 hi0 hI0 hI1 hI2 rfl (by decide) _ _ _ rfl (hown.alloc _) ⟨(wr).heap.size, 0, none⟩ 1 1 [.string (s.extract a k)] rfl rfl ?c1 ?c2 ?c3 ?c4 ?c5 ?_; (case c1 => exact cell_one_new _ _ _); (case c2 => simp [Value.oneCell']); (case c3 => (simp only [maxLen]; omega)); (case c4 => omega); (case c5 => (simp; omega)); intro v' wA hown1 hgrow hnil hat; obtain ⟨gg, cap, rfl, hg1, hg2⟩ := hown1.form (by omega))))
        go_roundw
        case rel =>
          have hsz := hgrow.size
          simp at hsz
          refine ⟨k + 1, k + 1, ps ++ [(s.data.toList.take k).drop a], n + 1, some ⟨gg, 0, none⟩, cap, by omega, by omega, by go_num, by go_num, rfl, ?_, ?_, by omega, by omega, Lib.hid (by rw [List.length_append, HL.out]; rfl), Lib.hid (Or.inl ⟨by omega, HN.out⟩)⟩
          · rw [List.map_append, List.map_append]
            rw [HX.out] at hown1
            exact hown1
          · exact Below.grown (hb.alloc (by omega) _) hgrow (by simp; omega) (fun g e => (hown.lt _ e).1)
        case measure => simp [intOf]; omega
theorem segByte_iff {b : UInt8} : segByte b = true ↔ (97 ≤ (b.toNat : Int) ∧ (b.toNat : Int) ≤ 122) ∨ (48 ≤ (b.toNat : Int) ∧ (b.toNat : Int) ≤ 57) ∨ (b.toNat : Int) = 45 := by
  unfold segByte
  rw [Bool.or_eq_true, nameByte_iff, beq_iff_eq, ← UInt8.toNat_inj]
  have : (45 : UInt8).toNat = 45 := rfl
  omega
set_option maxHeartbeats 1600000 in
theorem spec_l01Segment (s : ByteArray) (w : World) (hs : s.size ≤ 9223372036854775807) :
    Calls Tryd.prog 68 #[.string s] w fun e w' => e = .returned (.bool (segOk s)) ∧ w' = w := by
  cases hw : withinB s.size 1 16
  · have HD := Lib.hid (segOk_size hw)
    have HW := Lib.hid hw
    go_enter Tryd.func68, Tryd.ntmps68
    go_wp2_with (go_at_call 56; refine (spec_l01In_b HW.out _).mono ?_; rintro e w' ⟨rfl, rfl⟩)
    go_ret
    exact ⟨ret_bool (by rw [HD.out]), rfl⟩
  have HF := Lib.hid (segOk_fit hw)
  have HW := Lib.hid hw
  clear hw
  go_enter Tryd.func68, Tryd.ntmps68
  go_wp2_with (go_at_call 56; refine (spec_l01In_b HW.out _).mono ?_; rintro e w' ⟨rfl, rfl⟩)
  go_loop [3] (fun i => ∃ k : Nat, k ≤ s.size ∧ i = .int .i64 k ∧ Hid ((s.data.toList.take k).all segByte = true)) (fun i => s.size - (intOf i).toNat)
  case atStart => exact ⟨0, Nat.zero_le _, rfl, Lib.hid rfl⟩
  case round =>
    obtain ⟨k, hk, rfl, hinv⟩ := hrel
    by_cases hlt : k < s.size
    · have HG : Hid (s.data.toList[k]? = some s[k]) := Lib.hid (by rw [List.getElem?_eq_getElem (by simpa using hlt)]; rfl)
      go_wp2
      all_goals first
        | (have hb : segByte s[k] = false := by
            cases hq : segByte s[k] with
            | false => rfl
            | true =>
              exfalso
              rw [segByte_iff] at hq
              try simp only [Bool.not_eq_true', Bool.not_eq_false', decide_eq_false_iff_not, decide_eq_true_eq, bne_iff_ne, bne_eq_false_iff_eq, ne_eq] at *
              omega
           go_ret
           exact ⟨ret_bool (by rw [HF.out, strAll_stop HG.out hb]), rfl⟩)
        | (have hb : segByte s[k] = true := by
            rw [segByte_iff]
            try simp only [Bool.not_eq_true', Bool.not_eq_false', decide_eq_false_iff_not, decide_eq_true_eq, bne_iff_ne, bne_eq_false_iff_eq, ne_eq] at *
            omega
           go_round
           case rel => exact ⟨k + 1, by omega, by go_num, Lib.hid (by rw [all_snoc HG.out, hinv.out, hb]; rfl)⟩
           case measure => simp [intOf]; omega)
    · have HA : Hid (strAll segByte s = true) := Lib.hid (strAll_done (Nat.not_lt.1 hlt) hinv.out)
      go_wp2
      go_ret
      exact ⟨ret_bool (by rw [HF.out, HA.out]), rfl⟩
theorem spec_l01Segment_b {s : ByteArray} {b : Bool} (h : segOk s = b) (hs : s.size ≤ 9223372036854775807) (w : World) : Calls Tryd.prog 68 #[.string s] w fun e w' => e = .returned (.bool b) ∧ w' = w := by rw [← h]; exact spec_l01Segment s w hs
set_option maxHeartbeats 3200000 in
theorem spec_GlobOk (s : ByteArray) (w : World) (hs : s.size ≤ 9223372036854775807) :
    Calls Tryd.prog 55 #[.string s] w fun e w' => e = .returned (.bool (globOk s)) ∧ Below w.heap.size w w' := by
  by_cases hl : s.size ≤ 120
  rotate_left
  · have HD := Lib.hid (globOk_long hl)
    have hl2 : decide ((120 : Int) < (s.size : Int)) = true := by simp; omega
    go_enter Tryd.func55, Tryd.ntmps55
    go_wp2
    go_ret
    exact ⟨ret_bool (by rw [HD.out]), Below.refl _ _⟩
  have hlen := segsOf_len s
  have HSZ := Lib.hid (fun x => segsOf_sz (s := s) (x := x))
  have HBAD := Lib.hid (fun x k => globOk_bad (s := s) (x := x) (k := k))
  have HDONE := Lib.hid (globOk_done (s := s) hl)
  have HSP := Lib.hid (spec_l01Parts s w hl)
  generalize segsOf s = segs at *
  generalize globOk s = gb at *
  generalize hn : segs.length = n at *
  have Hn := Lib.hid hn
  have hl2 : decide ((120 : Int) < (s.size : Int)) = false := by simp; omega
  clear hn
  go_enter Tryd.func55, Tryd.ntmps55
  go_wp2_with (go_at_call 67; refine HSP.out.mono ?_; rintro e w1 ⟨A, c, rfl, hr, hb1⟩)
  have hz1 := hb1.size
  go_loopw [4] (fun i wr => ∃ k : Nat, k ≤ n ∧ i = .int .i64 k ∧ Still w1 wr ∧ Hid (segsOk segs k = true)) (fun i _ => n - (intOf i).toNat)
  case atStart => exact ⟨0, Nat.zero_le _, rfl, Still.refl _, Lib.hid rfl⟩
  case round =>
    obtain ⟨k, hk, rfl, hst, hinv⟩ := hrel
    have hb := hst.below w1.heap.size
    by_cases hlt : k < n
    · have hlx : k < segs.length := by rw [Hn.out]; exact hlt
      obtain ⟨b, off, rfl, hab, hc1⟩ := hr.at_ (by simpa using hlx) hb (Nat.le_refl _)
      rw [List.getElem_map] at hc1
      have HG := Lib.hid (List.getElem?_eq_getElem hlx)
      have hsx := HSZ.out _ (List.getElem_mem hlx)
      generalize segs[k]'hlx = x at hc1 HG hsx
      clear hlx
      simp only [strV] at hc1
      have hsm : x.size ≤ 9223372036854775807 := by omega
      cases hseg : segOk x
      · cases hskip : (isPlus x || (isStar x && decide (k + 1 = n)))
        · have HB : Hid (gb = false) := Lib.hid (HBAD.out _ _ HG.out (by rw [segAt_seg hskip, hseg]))
          have hp : ¬ x.toList = [43] := fun h => by rw [(isPlus_iff x).2 h] at hskip; exact absurd hskip (by simp)
          have hpb : (x.toList == [43]) = false := by simpa using hp
          have hns : (x.toList == [42]) = false ∨ ((x.toList == [42]) = true ∧ ((k : Int) == (n : Int) - 1) = false) := by
            by_cases hst : x.toList = [42]
            · rw [(isStar_iff x).2 hst] at hskip
              have hkn : ¬ k + 1 = n := by intro h; rw [decide_eq_true h] at hskip; exact absurd hskip (by simp)
              exact Or.inr ⟨by simpa using hst, by rw [beq_eq_false_iff_ne]; omega⟩
            · exact Or.inl (by simpa using hst)
          clear hskip hp
          have HS := Lib.hid hseg
          clear hseg
          rcases hns with hns | ⟨hns, hns2⟩
          all_goals
            go_wp2_with (go_at_call 68; refine (spec_l01Segment_b HS.out hsm _).mono ?_; rintro e w' ⟨rfl, rfl⟩)
            go_ret
            exact ⟨ret_bool (by rw [HB.out]), by first | exact (hb1.trans (hb.mono hz1)) | exact (hb1.trans ((hst.drewN _).below _ |>.mono hz1))⟩
        · have HN : Hid (segsOk segs (k + 1) = true) := Lib.hid (by rw [segsOk_yes HG.out, hinv.out, Hn.out, segAt_skip hskip]; rfl)
          have hc : (x.toList == [43]) = true ∨ ((x.toList == [43]) = false ∧ (x.toList == [42]) = true ∧ ((k : Int) == (n : Int) - 1) = true) := by
            by_cases hp : x.toList = [43]
            · exact Or.inl (by simpa using hp)
            · refine Or.inr ⟨by simpa using hp, ?_⟩
              have h1 : isPlus x = false := by cases h : isPlus x; rfl; exact absurd ((isPlus_iff x).1 h) hp
              rw [h1, Bool.false_or, Bool.and_eq_true, isStar_iff, decide_eq_true_eq] at hskip
              exact ⟨by simpa using hskip.1, by rw [beq_iff_eq]; omega⟩
          clear hskip
          have HS := Lib.hid hseg
          clear hseg
          rcases hc with hc | ⟨hc0, hc2, hc3⟩
          all_goals
            go_wp2_with (go_at_call 68; refine (spec_l01Segment_b HS.out hsm _).mono ?_; rintro e w' ⟨rfl, rfl⟩)
            go_roundw
            case rel => exact ⟨k + 1, by omega, by go_num, by first | exact hst | exact hst.drewN _, HN⟩
            case measure => simp [intOf]; omega
      · have HN : Hid (segsOk segs (k + 1) = true) := Lib.hid (by rw [segsOk_yes HG.out, hinv.out, Hn.out]; unfold segAt; rw [hseg]; rfl)
        have HS := Lib.hid hseg
        clear hseg
        go_wp2_with (go_at_call 68; refine (spec_l01Segment_b HS.out hsm _).mono ?_; rintro e w' ⟨rfl, rfl⟩)
        go_roundw
        case rel => exact ⟨k + 1, by omega, by go_num, by first | exact hst | exact hst.drewN _, HN⟩
        case measure => simp [intOf]; omega
    · obtain rfl : k = n := by omega
      have HD : Hid (gb = decide (k ≤ 8)) := Lib.hid (HDONE.out hinv.out)
      go_wp2
      go_ret
      exact ⟨ret_bool (by rw [HD.out, Bool.eq_iff_iff]; simp only [decide_eq_true_eq]; omega), by (repeat (first | (with_reducible exact Below.refl _ _) | (with_reducible assumption) | ((with_reducible refine Below.setCell ?_ ?_ _); rotate_left; focus (first | omega | (simp; done) | (simp; omega))) | ((with_reducible refine Below.alloc ?_ ?_ _); rotate_left; focus (first | omega | (simp; done) | (simp; omega))) | (with_reducible refine Below.drew ?_) | (with_reducible refine below_drewN ?_ _) | (refine Below.trans ?_ (Below.mono (by with_reducible assumption) (by (first | omega | (simp; done) | (simp; omega)))))))⟩
theorem wild_no {b : UInt8} (h : wildB b = false) : ((b.toNat : Int) == 43) = false ∧ ((b.toNat : Int) == 42) = false := by
  unfold wildB at h
  rw [Bool.or_eq_false_iff, beq_eq_false_iff_ne, beq_eq_false_iff_ne, ne_eq, ne_eq, ← UInt8.toNat_inj, ← UInt8.toNat_inj] at h
  have h1 : (43 : UInt8).toNat = 43 := rfl
  have h2 : (42 : UInt8).toNat = 42 := rfl
  rw [beq_eq_false_iff_ne, beq_eq_false_iff_ne]
  omega
theorem wild_yes {b : UInt8} (h : wildB b = true) : ((b.toNat : Int) == 43) = true ∨ (((b.toNat : Int) == 43) = false ∧ ((b.toNat : Int) == 42) = true) := by
  unfold wildB at h
  rw [Bool.or_eq_true, beq_iff_eq, beq_iff_eq] at h
  rcases h with rfl | rfl
  · exact Or.inl rfl
  · exact Or.inr ⟨rfl, rfl⟩
end Go.Proofs.YtoijmnnjcoogkaaDoor

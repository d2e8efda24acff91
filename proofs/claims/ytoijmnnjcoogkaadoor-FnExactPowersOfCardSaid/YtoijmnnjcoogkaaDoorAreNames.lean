/- Lists of names: areNames of the program, l08Names of the reference. -/
import Derived.Test.YtoijmnnjcoogkaaDoorNames
set_option linter.unusedSimpArgs false
set_option linter.unusedVariables false
set_option maxRecDepth 20000
namespace Go.Proofs.YtoijmnnjcoogkaaDoor
open Go.RowKit
def ltS (y x : ByteArray) : Bool := Op.bytesLess y.toList x.toList
def namesOk (ns : List ByteArray) : Bool := decide (ns.length ≤ 6) && okAll nameOk ltS ns ns.length
theorem ltS_no {y x : ByteArray} (h : (!Op.bytesLess y.toList x.toList) = true) : ltS y x = false := by simpa [ltS] using h
theorem ltS_yes {y x : ByteArray} (h : (!Op.bytesLess y.toList x.toList) = false) : ltS y x = true := by simpa [ltS] using h
theorem namesOk_bad {ns : List ByteArray} {k : Nat} (hk : k < ns.length) (h : okAt nameOk ltS ns k = false) : namesOk ns = false := by unfold namesOk; rw [okAll_false hk h, Bool.and_false]
theorem namesOk_done {ns : List ByteArray} (h : okAll nameOk ltS ns ns.length = true) : namesOk ns = decide (ns.length ≤ 6) := by unfold namesOk; rw [h, Bool.and_true]
theorem namesOk_long {ns : List ByteArray} (h : ¬ ns.length ≤ 6) : namesOk ns = false := by unfold namesOk; rw [decide_eq_false h, Bool.false_and]
theorem impl_isName_b {s : ByteArray} {b : Bool} (h : nameOk s = b) (hs : s.size ≤ 9223372036854775807) (w : World) : Calls Tryd.prog 62 #[.string s] w fun e w' => e = .returned (.bool b) ∧ w = w' := by rw [← h]; exact impl_isName s hs w
theorem spec_l01Name_b {s : ByteArray} {b : Bool} (h : nameOk s = b) (hs : s.size ≤ 9223372036854775807) (w : World) : Calls Tryd.prog 54 #[.string s] w fun e w' => e = .returned (.bool b) ∧ w' = w := by rw [← h]; exact (spec_l01Name s hs w).mono fun _ _ ⟨a, c⟩ => ⟨a, c.symm⟩
set_option maxHeartbeats 3200000 in
theorem impl_areNames (A : Option Addr) (c : Nat) (ns : List ByteArray) (w : World) (hr : Reads w w.heap.size A (ns.map strV)) (hs : ∀ s ∈ ns, s.size ≤ 9223372036854775807) (hm : ns.length ≤ 140737488351232) :
    Calls Tryd.prog 60 #[.slice A ns.length c] w fun e w' => e = .returned (.bool (namesOk ns)) ∧ Below w.heap.size w w' := by
  generalize hn : ns.length = n at hm
  have Hn := Lib.hid hn
  have HS := Lib.hid hs
  clear hn hs
  go_enter Tryd.func60, Tryd.ntmps60
  go_wp2
  go_loopw [7] (fun i wr => ∃ k : Nat, k ≤ n ∧ i = .int .i64 k ∧ Still w wr ∧ Hid (okAll nameOk ltS ns k = true)) (fun i _ => n - (intOf i).toNat)
  case atStart => exact ⟨0, Nat.zero_le _, rfl, Still.refl _, Lib.hid rfl⟩
  case round =>
    obtain ⟨k, hk, rfl, hst, hinv⟩ := hrel
    have hb := hst.below w.heap.size
    by_cases hlt : k < n
    · have hlx : k < ns.length := by rw [Hn.out]; exact hlt
      obtain ⟨b, off, rfl, hab, hc1⟩ := hr.at_ (by simpa using hlx) hb (Nat.le_refl _)
      rw [List.getElem_map] at hc1
      have HG := Lib.hid (List.getElem?_eq_getElem hlx)
      have hsk := HS.out _ (List.getElem_mem hlx)
      have HLX := Lib.hid hlx
      generalize ns[k]'hlx = x at hc1 HG hsk
      clear hlx
      simp only [strV] at hc1
      cases hnm : nameOk x
      · have HB := Lib.hid (namesOk_bad HLX.out (okAt_bad (lt := ltS) HG.out hnm))
        have HN := Lib.hid hnm
        clear hnm
        go_wp2_with (go_at_call 62; refine (impl_isName_b HN.out hsk _).mono ?_; rintro e w' ⟨rfl, rfl⟩)
        go_ret
        exact ⟨ret_bool (by rw [HB.out]), by first | exact hb | exact (hst.drewN _).below _⟩
      · have HN := Lib.hid hnm
        clear hnm
        by_cases h0 : 0 < k
        · have hlp : k - 1 < ns.length := by rw [Hn.out]; omega
          obtain ⟨b', off', e', -, hc2⟩ := hr.at_ (k := k - 1) (by simpa using hlp) hb (Nat.le_refl _)
          simp only [Option.some.injEq, Addr.mk.injEq, and_true] at e'
          obtain ⟨rfl, rfl⟩ := e'
          rw [List.getElem_map] at hc2
          have HP := Lib.hid (List.getElem?_eq_getElem hlp)
          generalize ns[k - 1]'hlp = y at hc2 HP
          clear hlp
          simp only [strV] at hc2
          have hd0 : decide ((0 : Int) < (k : Int)) = true := by simpa using h0
          go_wp2_with (go_at_call 62; refine (impl_isName_b HN.out hsk _).mono ?_; rintro e w' ⟨rfl, rfl⟩)
          all_goals first
            | (have hlt2 : ltS y x = false := ltS_no (by assumption)
               go_ret
               exact ⟨ret_bool (by rw [namesOk_bad HLX.out (okAt_order h0 HG.out HP.out hlt2)]), by first | exact hb | exact (hst.drewN _).below _⟩)
            | (have hlt2 : ltS y x = true := ltS_yes (by assumption)
               go_roundw
               case rel => exact ⟨k + 1, by omega, by go_num, by first | exact hst | exact hst.drewN _, Lib.hid (by rw [okAll_succ, hinv.out, okAt_next h0 HG.out HP.out, HN.out, hlt2]; rfl)⟩
               case measure => simp [intOf]; omega)
        · have hd0 : decide ((0 : Int) < (k : Int)) = false := by simpa using h0
          go_wp2_with (go_at_call 62; refine (impl_isName_b HN.out hsk _).mono ?_; rintro e w' ⟨rfl, rfl⟩)
          go_roundw
          case rel => exact ⟨k + 1, by omega, by go_num, by first | exact hst | exact hst.drewN _, Lib.hid (by rw [okAll_succ, hinv.out, okAt_first h0 HG.out, HN.out]; rfl)⟩
          case measure => simp [intOf]; omega
    · obtain rfl : k = n := by omega
      have HD : Hid (namesOk ns = decide (k ≤ 6)) := Lib.hid (by rw [namesOk_done (by rw [Hn.out]; exact hinv.out), Hn.out])
      go_wp2
      go_ret
      exact ⟨ret_bool (by rw [HD.out, Bool.eq_iff_iff]; simp only [decide_eq_true_eq]; omega), hb⟩
set_option maxHeartbeats 3200000 in
theorem spec_l08Names (A : Option Addr) (c : Nat) (ns : List ByteArray) (w : World) (hr : Reads w w.heap.size A (ns.map strV)) (hs : ∀ s ∈ ns, s.size ≤ 9223372036854775807) (hm : ns.length ≤ 140737488351232) :
    Calls Tryd.prog 66 #[.slice A ns.length c] w fun e w' => e = .returned (.bool (namesOk ns)) ∧ Below w.heap.size w w' := by
  generalize hn : ns.length = n at hm
  have Hn := Lib.hid hn
  have HS := Lib.hid hs
  clear hn hs
  by_cases hl6 : n ≤ 6
  rotate_left
  · have HD := Lib.hid (namesOk_long (ns := ns) (by rw [Hn.out]; exact hl6))
    have hd6 : decide ((6 : Int) < (n : Int)) = true := by simp; omega
    go_enter Tryd.func66, Tryd.ntmps66
    go_wp2
    go_ret
    exact ⟨ret_bool (by rw [HD.out]), Below.refl _ _⟩
  go_enter Tryd.func66, Tryd.ntmps66
  go_wp2
  go_loopw [3] (fun i wr => ∃ k : Nat, k ≤ n ∧ i = .int .i64 k ∧ Still w wr ∧ Hid (okAll nameOk ltS ns k = true)) (fun i _ => n - (intOf i).toNat)
  case atStart => exact ⟨0, Nat.zero_le _, rfl, Still.refl _, Lib.hid rfl⟩
  case round =>
    obtain ⟨k, hk, rfl, hst, hinv⟩ := hrel
    have hb := hst.below w.heap.size
    by_cases hlt : k < n
    · have hlx : k < ns.length := by rw [Hn.out]; exact hlt
      obtain ⟨b, off, rfl, hab, hc1⟩ := hr.at_ (by simpa using hlx) hb (Nat.le_refl _)
      rw [List.getElem_map] at hc1
      have HG := Lib.hid (List.getElem?_eq_getElem hlx)
      have hsk := HS.out _ (List.getElem_mem hlx)
      have HLX := Lib.hid hlx
      generalize ns[k]'hlx = x at hc1 HG hsk
      clear hlx
      simp only [strV] at hc1
      cases hnm : nameOk x
      · have HB := Lib.hid (namesOk_bad HLX.out (okAt_bad (lt := ltS) HG.out hnm))
        have HN := Lib.hid hnm
        clear hnm
        go_wp2
        go_quiet ((go_at_call 54; exact Calls.quiet_of_same (spec_l01Name_b HN.out hsk _)))
        go_wp2
        go_ret
        exact ⟨ret_bool (by rw [HB.out]), by first | exact hb | exact (hst.drewN _).below _⟩
      · have HN := Lib.hid hnm
        clear hnm
        by_cases h0 : 0 < k
        · have hlp : k - 1 < ns.length := by rw [Hn.out]; omega
          obtain ⟨b', off', e', -, hc2⟩ := hr.at_ (k := k - 1) (by simpa using hlp) hb (Nat.le_refl _)
          simp only [Option.some.injEq, Addr.mk.injEq, and_true] at e'
          obtain ⟨rfl, rfl⟩ := e'
          rw [List.getElem_map] at hc2
          have HP := Lib.hid (List.getElem?_eq_getElem hlp)
          generalize ns[k - 1]'hlp = y at hc2 HP
          clear hlp
          simp only [strV] at hc2
          have hd0 : decide ((0 : Int) < (k : Int)) = true := by simpa using h0
          go_wp2
          go_quiet ((go_at_call 54; exact Calls.quiet_of_same (spec_l01Name_b HN.out hsk _)))
          go_wp2
          all_goals first
            | (have hlt2 : ltS y x = false := ltS_no (by assumption)
               go_ret
               exact ⟨ret_bool (by rw [namesOk_bad HLX.out (okAt_order h0 HG.out HP.out hlt2)]), by first | exact hb | exact (hst.drewN _).below _⟩)
            | (have hlt2 : ltS y x = true := ltS_yes (by assumption)
               go_roundw
               case rel => exact ⟨k + 1, by omega, by go_num, by first | exact hst | exact hst.drewN _, Lib.hid (by rw [okAll_succ, hinv.out, okAt_next h0 HG.out HP.out, HN.out, hlt2]; rfl)⟩
               case measure => simp [intOf]; omega)
        · have hd0 : decide ((0 : Int) < (k : Int)) = false := by simpa using h0
          go_wp2
          go_quiet ((go_at_call 54; exact Calls.quiet_of_same (spec_l01Name_b HN.out hsk _)))
          go_wp2
          go_roundw
          case rel => exact ⟨k + 1, by omega, by go_num, by first | exact hst | exact hst.drewN _, Lib.hid (by rw [okAll_succ, hinv.out, okAt_first h0 HG.out, HN.out]; rfl)⟩
          case measure => simp [intOf]; omega
    · obtain rfl : k = n := by omega
      have HD : Hid (namesOk ns = decide (k ≤ 6)) := Lib.hid (by rw [namesOk_done (by rw [Hn.out]; exact hinv.out), Hn.out])
      have h6 : k ≤ 6 := hl6
      go_wp2
      go_ret
      exact ⟨ret_bool (by rw [HD.out]; simpa using h6), hb⟩
end Go.Proofs.YtoijmnnjcoogkaaDoor

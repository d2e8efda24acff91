/- impl.isPolicy: the walk (printed by wip/gen/genpol.py). impl.arePolicies (printed by wip/gen/genpol.py). spec.PolicyOk: the walk (printed by wip/gen/genpol.py). spec.l08Policies (printed by wip/gen/genpol.py). -/
import Derived.Test.YtoijmnnjcoogkaaDoorPurePol
set_option linter.unusedSimpArgs false
set_option linter.unusedVariables false
set_option maxRecDepth 20000
namespace Go.Proofs.YtoijmnnjcoogkaaDoor
open Go.RowKit
set_option maxHeartbeats 6400000 in
theorem impl_isPolicy (nm : ByteArray) (A : Option Addr) (c : Nat) (rs : List Rule) (w : World) (hnm : nm.size ≤ 9223372036854775807) (hr : SlRd RuleR w w.heap.size (.slice A rs.length c) rs) (hm : rs.length ≤ 140737488351232) (hml : MaxLenInt w) :
    Calls Tryd.prog 44 #[.agg #[.string nm, .slice A rs.length c]] w fun e w' => e = .returned (.bool (polOk ⟨nm, rs⟩)) ∧ Below w.heap.size w w' := by
  have HM := Lib.hid (fun (w' : World) (hb : Below w.heap.size w w') => hml.keep hb)
  have HNm := Lib.hid (fun (w' : World) => impl_isName nm hnm w')
  generalize hn : rs.length = n at *
  have Hn := Lib.hid hn
  clear hn
  go_enter Tryd.func44, Tryd.ntmps44
  go_wp2
  go_loopw [8] (fun i wr => ∃ k : Nat, k ≤ n ∧ i = .int .i64 k ∧ Below w.heap.size w wr ∧ Blk wr w.heap.size 55 #[.string nm, .slice A n c] ∧ Hid (okAll ruleOk ruleLt rs k = true)) (fun i _ => n - (intOf i).toNat)
  case atStart => exact ⟨0, Nat.zero_le _, rfl, by (repeat (first | (with_reducible exact Below.refl _ _) | (with_reducible assumption) | ((with_reducible refine Below.setCell ?_ ?_ _); rotate_left; focus (first | omega | (simp; done) | (simp; omega))) | ((with_reducible refine Below.alloc ?_ ?_ _); rotate_left; focus (first | omega | (simp; done) | (simp; omega))) | (with_reducible refine Below.drew ?_) | (with_reducible refine below_drewN ?_ _) | (refine Below.trans ?_ (Below.mono (by with_reducible assumption) (by (first | omega | (simp; done) | (simp; omega))))))), by (repeat (first | (with_reducible assumption) | ((with_reducible refine Blk.new' ?_); focus (simp; done)) | (with_reducible refine Blk.alloc ?_ _) | (with_reducible refine Blk.drew ?_) | (with_reducible refine Blk.drewN ?_ _) | ((with_reducible refine Blk.far ?_ ?_ _); rotate_left; focus (first | omega | (simp; done) | (simp; omega))) | (refine Blk.keep ?_ (by with_reducible assumption)) | (refine Blk.below ?_ (by with_reducible assumption) (by (first | omega | (simp; done) | (simp; omega)))))), Lib.hid rfl⟩
  case round =>
    obtain ⟨k, hk, rfl, hb, hbk, hinv⟩ := hrel
    have hc0 := hbk.cell
    by_cases hlt : k < n
    · have hlx : k < rs.length := by rw [Hn.out]; exact hlt
      have HLx := Lib.hid hlx
      have HG := Lib.hid (List.getElem?_eq_getElem hlx)
      generalize rs[k]'hlx = r at HG
      clear hlx
      obtain ⟨b, off, rfl, hab, hps, hq0, hq1⟩ := rule_elem (hr.below hb (Nat.le_refl _)) HG.out
      have hzr := hb.size
      have hbk2 := hbk.alloc (.cells #[.string r.Glob, .int .i64 r.Caps] 72)
      have hbt := Blk.new wr 72 #[.string r.Glob, .int .i64 r.Caps]
      have hbW := hb.alloc hzr (.cells #[.string r.Glob, .int .i64 r.Caps] 72)
      have hzW := hbW.size
      have hrW : SlRd RuleR (wr.alloc (.cells #[.string r.Glob, .int .i64 r.Caps] 72)) w.heap.size (.slice (some ⟨b, off, none⟩) n c) rs := hr.below hbW (Nat.le_refl _)
      have HI := Lib.hid (fun (n' : Lt (wr.alloc (.cells #[.string r.Glob, .int .i64 r.Caps] 72))) => impl_isGlob r.Glob (later _ n') hps (HM.out _ (hbW.trans ((later_below _ n').mono hzW))))
      have HW := Lib.hid (fun (w' : World) => impl_within r.Caps 0 63 w')
      cases hg : globOk r.Glob
      · have HX := Lib.hid (ruleOk_glob hg)
        go_wp2
        generalize (wr.alloc (.cells #[.string r.Glob, .int .i64 r.Caps] 72)) = W at *
        have q0 := hbk2.later
        have q1 := hbt.later
        refine wp_region_later (by kernel_rfl) (by kernel_rfl) ?_
        repeat (first | go_big_quiet_step (((go_at_call 61; exact Calls.later_of (by simpa only [hg] using HI.out _)))) | quiet_step (((go_at_call 61; exact Calls.later_of (by simpa only [hg] using HI.out _)))))
        refine wpQuiet_nil ?_
        intro w3 hb3
        go_wp2
        go_ret
        exact ⟨ret_bool (by rw [polOk_rules (rulesOk_bad HLx.out (okAt_bad HG.out HX.out))]), by (repeat (first | (with_reducible exact Below.refl _ _) | (with_reducible assumption) | ((with_reducible refine Below.setCell ?_ ?_ _); rotate_left; focus (first | omega | (simp; done) | (simp; omega))) | ((with_reducible refine Below.alloc ?_ ?_ _); rotate_left; focus (first | omega | (simp; done) | (simp; omega))) | (with_reducible refine Below.drew ?_) | (with_reducible refine below_drewN ?_ _) | (refine Below.trans ?_ (Below.mono (by with_reducible assumption) (by (first | omega | (simp; done) | (simp; omega)))))))⟩
      cases hcp : withinB r.Caps 0 63
      · have HX := Lib.hid (ruleOk_caps hcp)
        rw [hcp] at HW
        go_wp2
        generalize (wr.alloc (.cells #[.string r.Glob, .int .i64 r.Caps] 72)) = W at *
        have q0 := hbk2.later
        have q1 := hbt.later
        refine wp_region_later (by kernel_rfl) (by kernel_rfl) ?_
        repeat (first | go_big_quiet_step ((first | (go_at_call 61; exact Calls.later_of (by simpa only [hg] using HI.out _)) | (go_at_call 59; exact Calls.later_of ((HW.out _).mono (fun _ _ h => ⟨h.1, h.2 ▸ Below.refl _ _⟩))))) | quiet_step ((first | (go_at_call 61; exact Calls.later_of (by simpa only [hg] using HI.out _)) | (go_at_call 59; exact Calls.later_of ((HW.out _).mono (fun _ _ h => ⟨h.1, h.2 ▸ Below.refl _ _⟩))))))
        refine wpQuiet_nil ?_
        intro w3 hb3
        go_wp2
        go_ret
        exact ⟨ret_bool (by rw [polOk_rules (rulesOk_bad HLx.out (okAt_bad HG.out HX.out))]), by (repeat (first | (with_reducible exact Below.refl _ _) | (with_reducible assumption) | ((with_reducible refine Below.setCell ?_ ?_ _); rotate_left; focus (first | omega | (simp; done) | (simp; omega))) | ((with_reducible refine Below.alloc ?_ ?_ _); rotate_left; focus (first | omega | (simp; done) | (simp; omega))) | (with_reducible refine Below.drew ?_) | (with_reducible refine below_drewN ?_ _) | (refine Below.trans ?_ (Below.mono (by with_reducible assumption) (by (first | omega | (simp; done) | (simp; omega)))))))⟩
      have HX := Lib.hid (ruleOk_yes hg hcp)
      rw [hcp] at HW
      by_cases h0 : 0 < k
      · have hs1 : k - 1 < rs.length := by rw [Hn.out]; omega
        have HS := Lib.hid (List.getElem?_eq_getElem hs1)
        generalize rs[k - 1]'hs1 = s at HS
        clear hs1
        obtain ⟨b', off', e', -, -, hcp0, -⟩ := rule_elem hrW HS.out
        simp only [Option.some.injEq, Addr.mk.injEq, and_true] at e'
        obtain ⟨rfl, rfl⟩ := e'
        have hd0 : decide ((0 : Int) < (k : Int)) = true := by simpa using h0
        cases hid : Op.bytesLess s.Glob.toList r.Glob.toList
        · have HLt : Hid (ruleLt s r = false) := Lib.hid (by unfold ruleLt ltS; exact hid)
          have hid2 : (!Op.bytesLess s.Glob.toList r.Glob.toList) = true := by rw [hid]; rfl
          go_wp2
          generalize (wr.alloc (.cells #[.string r.Glob, .int .i64 r.Caps] 72)) = W at *
          have q0 := hbk2.later
          have q1 := hbt.later
          have q2 := later_cell hcp0
          refine wp_region_later (by kernel_rfl) (by kernel_rfl) ?_
          repeat (first | go_big_quiet_step ((first | (go_at_call 61; exact Calls.later_of (by simpa only [hg] using HI.out _)) | (go_at_call 59; exact Calls.later_of ((HW.out _).mono (fun _ _ h => ⟨h.1, h.2 ▸ Below.refl _ _⟩))))) | quiet_step ((first | (go_at_call 61; exact Calls.later_of (by simpa only [hg] using HI.out _)) | (go_at_call 59; exact Calls.later_of ((HW.out _).mono (fun _ _ h => ⟨h.1, h.2 ▸ Below.refl _ _⟩))))))
          refine wpQuiet_nil ?_
          intro w3 hb3
          go_wp2
          go_ret
          exact ⟨ret_bool (by rw [polOk_rules (rulesOk_bad HLx.out (okAt_order h0 HG.out HS.out HLt.out))]), by (repeat (first | (with_reducible exact Below.refl _ _) | (with_reducible assumption) | ((with_reducible refine Below.setCell ?_ ?_ _); rotate_left; focus (first | omega | (simp; done) | (simp; omega))) | ((with_reducible refine Below.alloc ?_ ?_ _); rotate_left; focus (first | omega | (simp; done) | (simp; omega))) | (with_reducible refine Below.drew ?_) | (with_reducible refine below_drewN ?_ _) | (refine Below.trans ?_ (Below.mono (by with_reducible assumption) (by (first | omega | (simp; done) | (simp; omega)))))))⟩
        · have HLt : Hid (ruleLt s r = true) := Lib.hid (by unfold ruleLt ltS; exact hid)
          have hid2 : (!Op.bytesLess s.Glob.toList r.Glob.toList) = false := by rw [hid]; rfl
          go_wp2
          generalize (wr.alloc (.cells #[.string r.Glob, .int .i64 r.Caps] 72)) = W at *
          have q0 := hbk2.later
          have q1 := hbt.later
          have q2 := later_cell hcp0
          refine wp_region_later (by kernel_rfl) (by kernel_rfl) ?_
          repeat (first | go_big_quiet_step ((first | (go_at_call 61; exact Calls.later_of (by simpa only [hg] using HI.out _)) | (go_at_call 59; exact Calls.later_of ((HW.out _).mono (fun _ _ h => ⟨h.1, h.2 ▸ Below.refl _ _⟩))))) | quiet_step ((first | (go_at_call 61; exact Calls.later_of (by simpa only [hg] using HI.out _)) | (go_at_call 59; exact Calls.later_of ((HW.out _).mono (fun _ _ h => ⟨h.1, h.2 ▸ Below.refl _ _⟩))))))
          refine wpQuiet_nil ?_
          intro w3 hb3
          go_wp2
          go_roundw
          case rel => exact ⟨k + 1, by omega, by go_num, by (repeat (first | (with_reducible exact Below.refl _ _) | (with_reducible assumption) | ((with_reducible refine Below.setCell ?_ ?_ _); rotate_left; focus (first | omega | (simp; done) | (simp; omega))) | ((with_reducible refine Below.alloc ?_ ?_ _); rotate_left; focus (first | omega | (simp; done) | (simp; omega))) | (with_reducible refine Below.drew ?_) | (with_reducible refine below_drewN ?_ _) | (refine Below.trans ?_ (Below.mono (by with_reducible assumption) (by (first | omega | (simp; done) | (simp; omega))))))), hbk2.keep hb3, Lib.hid (by rw [okAll_succ, hinv.out, okAt_next h0 HG.out HS.out, HX.out, HLt.out]; rfl)⟩
          case measure => simp [intOf]; omega
      · have hd0 : decide ((0 : Int) < (k : Int)) = false := by simpa using h0
        go_wp2
        generalize (wr.alloc (.cells #[.string r.Glob, .int .i64 r.Caps] 72)) = W at *
        have q0 := hbk2.later
        have q1 := hbt.later
        refine wp_region_later (by kernel_rfl) (by kernel_rfl) ?_
        repeat (first | go_big_quiet_step ((first | (go_at_call 61; exact Calls.later_of (by simpa only [hg] using HI.out _)) | (go_at_call 59; exact Calls.later_of ((HW.out _).mono (fun _ _ h => ⟨h.1, h.2 ▸ Below.refl _ _⟩))))) | quiet_step ((first | (go_at_call 61; exact Calls.later_of (by simpa only [hg] using HI.out _)) | (go_at_call 59; exact Calls.later_of ((HW.out _).mono (fun _ _ h => ⟨h.1, h.2 ▸ Below.refl _ _⟩))))))
        refine wpQuiet_nil ?_
        intro w3 hb3
        go_wp2
        go_roundw
        case rel => exact ⟨k + 1, by omega, by go_num, by (repeat (first | (with_reducible exact Below.refl _ _) | (with_reducible assumption) | ((with_reducible refine Below.setCell ?_ ?_ _); rotate_left; focus (first | omega | (simp; done) | (simp; omega))) | ((with_reducible refine Below.alloc ?_ ?_ _); rotate_left; focus (first | omega | (simp; done) | (simp; omega))) | (with_reducible refine Below.drew ?_) | (with_reducible refine below_drewN ?_ _) | (refine Below.trans ?_ (Below.mono (by with_reducible assumption) (by (first | omega | (simp; done) | (simp; omega))))))), hbk2.keep hb3, Lib.hid (by rw [okAll_succ, hinv.out, okAt_first h0 HG.out, HX.out]; rfl)⟩
        case measure => simp [intOf]; omega
    · obtain rfl : k = n := by omega
      have HD := Lib.hid (polOk_done (p := ⟨nm, rs⟩) (by unfold rulesOk; dsimp only; rw [Hn.out]; exact hinv.out))
      dsimp only at HD
      rw [Hn.out] at HD
      cases hnn : nameOk nm
      · rw [hnn] at HNm HD
        go_wp2_with fail
        refine (HNm.out _).mono ?_
        rintro e w' ⟨rfl, rfl⟩
        go_wp2
        go_ret
        exact ⟨ret_bool (by rw [HD.out]; rfl), by (repeat (first | (with_reducible exact Below.refl _ _) | (with_reducible assumption) | ((with_reducible refine Below.setCell ?_ ?_ _); rotate_left; focus (first | omega | (simp; done) | (simp; omega))) | ((with_reducible refine Below.alloc ?_ ?_ _); rotate_left; focus (first | omega | (simp; done) | (simp; omega))) | (with_reducible refine Below.drew ?_) | (with_reducible refine below_drewN ?_ _) | (refine Below.trans ?_ (Below.mono (by with_reducible assumption) (by (first | omega | (simp; done) | (simp; omega)))))))⟩
      · rw [hnn] at HNm HD
        go_wp2_with fail
        refine (HNm.out _).mono ?_
        rintro e w' ⟨rfl, rfl⟩
        go_wp2
        go_ret
        exact ⟨ret_bool (by rw [HD.out, Bool.true_and, Bool.eq_iff_iff]; simp only [decide_eq_true_eq]; omega), by (repeat (first | (with_reducible exact Below.refl _ _) | (with_reducible assumption) | ((with_reducible refine Below.setCell ?_ ?_ _); rotate_left; focus (first | omega | (simp; done) | (simp; omega))) | ((with_reducible refine Below.alloc ?_ ?_ _); rotate_left; focus (first | omega | (simp; done) | (simp; omega))) | (with_reducible refine Below.drew ?_) | (with_reducible refine below_drewN ?_ _) | (refine Below.trans ?_ (Below.mono (by with_reducible assumption) (by (first | omega | (simp; done) | (simp; omega)))))))⟩
end Go.Proofs.YtoijmnnjcoogkaaDoor
namespace Go.Proofs.YtoijmnnjcoogkaaDoor
open Go.RowKit
set_option maxHeartbeats 6400000 in
theorem impl_arePolicies (A : Option Addr) (c : Nat) (ps : List Policy) (w : World) (hr : SlRd PolicyR w w.heap.size (.slice A ps.length c) ps) (hm : szList PolicyR ps ≤ 1048576) (hml : MaxLenInt w) :
    Calls Tryd.prog 25 #[.slice A ps.length c] w fun e w' => e = .returned (.bool (polsOk ps)) ∧ Below w.heap.size w w' := by
  have HM := Lib.hid (fun (w' : World) (hb : Below w.heap.size w w') => hml.keep hb)
  have HSm := Lib.hid (fun (k : Nat) (p : Policy) (h : ps[k]? = some p) => Nat.le_trans (szList_one (R := PolicyR) h) hm)
  have hpl : ps.length ≤ 1048576 := Nat.le_trans (Nat.le_add_right _ _) hm
  generalize hn : ps.length = n at *
  have Hn := Lib.hid hn
  clear hn hm
  go_enter Tryd.func25, Tryd.ntmps25
  go_wp2
  go_loopw [7] (fun i wr => ∃ k : Nat, k ≤ n ∧ i = .int .i64 k ∧ Below w.heap.size w wr ∧ Hid (okAll polOk polLt ps k = true)) (fun i _ => n - (intOf i).toNat)
  case atStart => exact ⟨0, Nat.zero_le _, rfl, by (repeat (first | (with_reducible exact Below.refl _ _) | (with_reducible assumption) | ((with_reducible refine Below.setCell ?_ ?_ _); rotate_left; focus (first | omega | (simp; done) | (simp; omega))) | ((with_reducible refine Below.alloc ?_ ?_ _); rotate_left; focus (first | omega | (simp; done) | (simp; omega))) | (with_reducible refine Below.drew ?_) | (with_reducible refine below_drewN ?_ _) | (refine Below.trans ?_ (Below.mono (by with_reducible assumption) (by (first | omega | (simp; done) | (simp; omega))))))), Lib.hid rfl⟩
  case round =>
    obtain ⟨k, hk, rfl, hb, hinv⟩ := hrel
    by_cases hlt : k < n
    · have hlx : k < ps.length := by rw [Hn.out]; exact hlt
      have HLx := Lib.hid hlx
      have HG := Lib.hid (List.getElem?_eq_getElem hlx)
      generalize ps[k]'hlx = p at HG
      clear hlx
      have hzr := hb.size
      obtain ⟨b, off, Ar, cr, rfl, hab, hps, hru, hq0, hq1⟩ := pol_elem (hr.below hb (Nat.le_refl _)) HG.out
      have hsm := HSm.out k p HG.out
      rw [sz_Policy] at hsm
      have hrl : p.Rules.length ≤ 1048576 := by unfold szList at hsm; omega
      clear hsm
      have hbt := Blk.new wr 55 #[.string p.Name, .slice Ar p.Rules.length cr]
      have hbW := hb.alloc hzr (.cells #[.string p.Name, .slice Ar p.Rules.length cr] 55)
      have hzW := hbW.size
      have hrW : SlRd PolicyR (wr.alloc (.cells #[.string p.Name, .slice Ar p.Rules.length cr] 55)) w.heap.size (.slice (some ⟨b, off, none⟩) n c) ps := hr.below hbW (Nat.le_refl _)
      have HI : Hid (∀ n' : Lt (wr.alloc (.cells #[.string p.Name, .slice Ar p.Rules.length cr] 55)), Calls Tryd.prog 44 #[.agg #[.string p.Name, .slice Ar p.Rules.length cr]] (later _ n') fun e w' => e = .returned (.bool (polOk p)) ∧ Below (later _ n').heap.size (later _ n') w') := Lib.hid (fun n' => impl_isPolicy p.Name Ar cr p.Rules (later _ n') hps ((hru.below (((Below.refl _ wr).alloc hzr _).trans ((later_below _ n').mono hzW) : Below w.heap.size wr (later _ n')) (Nat.le_refl _)).more (Nat.le_trans hzW (later_below _ n').size)) (by omega) (HM.out _ (hbW.trans ((later_below _ n').mono hzW))))
      cases hok : polOk p
      · have HX := Lib.hid hok
        go_wp2
        generalize (wr.alloc (.cells #[.string p.Name, .slice Ar p.Rules.length cr] 55)) = W at *
        have q0 := hbt.later
        refine wp_region_later (by kernel_rfl) (by kernel_rfl) ?_
        repeat (first | go_big_quiet_step (((go_at_call 44; exact Calls.later_of (by simpa only [hok] using HI.out _)))) | quiet_step (((go_at_call 44; exact Calls.later_of (by simpa only [hok] using HI.out _)))))
        refine wpQuiet_nil ?_
        intro w3 hb3
        go_wp2
        go_ret
        exact ⟨ret_bool (by rw [polsOk_bad HLx.out (okAt_bad HG.out HX.out)]), by (repeat (first | (with_reducible exact Below.refl _ _) | (with_reducible assumption) | ((with_reducible refine Below.setCell ?_ ?_ _); rotate_left; focus (first | omega | (simp; done) | (simp; omega))) | ((with_reducible refine Below.alloc ?_ ?_ _); rotate_left; focus (first | omega | (simp; done) | (simp; omega))) | (with_reducible refine Below.drew ?_) | (with_reducible refine below_drewN ?_ _) | (refine Below.trans ?_ (Below.mono (by with_reducible assumption) (by (first | omega | (simp; done) | (simp; omega)))))))⟩
      have HX := Lib.hid hok
      by_cases h0 : 0 < k
      · have hs1 : k - 1 < ps.length := by rw [Hn.out]; omega
        have HS := Lib.hid (List.getElem?_eq_getElem hs1)
        generalize ps[k - 1]'hs1 = s at HS
        clear hs1
        obtain ⟨b', off', As, cs, e', -, -, -, hcp0, -⟩ := pol_elem hrW HS.out
        simp only [Option.some.injEq, Addr.mk.injEq, and_true] at e'
        obtain ⟨rfl, rfl⟩ := e'
        have hd0 : decide ((0 : Int) < (k : Int)) = true := by simpa using h0
        cases hid : Op.bytesLess s.Name.toList p.Name.toList
        · have HLt : Hid (polLt s p = false) := Lib.hid (by unfold polLt ltS; exact hid)
          have hid2 : (!Op.bytesLess s.Name.toList p.Name.toList) = true := by rw [hid]; rfl
          go_wp2
          generalize (wr.alloc (.cells #[.string p.Name, .slice Ar p.Rules.length cr] 55)) = W at *
          have q0 := hbt.later
          have q2 := later_cell hcp0
          refine wp_region_later (by kernel_rfl) (by kernel_rfl) ?_
          repeat (first | go_big_quiet_step (((go_at_call 44; exact Calls.later_of (by simpa only [hok] using HI.out _)))) | quiet_step (((go_at_call 44; exact Calls.later_of (by simpa only [hok] using HI.out _)))))
          refine wpQuiet_nil ?_
          intro w3 hb3
          go_wp2
          go_ret
          exact ⟨ret_bool (by rw [polsOk_bad HLx.out (okAt_order h0 HG.out HS.out HLt.out)]), by (repeat (first | (with_reducible exact Below.refl _ _) | (with_reducible assumption) | ((with_reducible refine Below.setCell ?_ ?_ _); rotate_left; focus (first | omega | (simp; done) | (simp; omega))) | ((with_reducible refine Below.alloc ?_ ?_ _); rotate_left; focus (first | omega | (simp; done) | (simp; omega))) | (with_reducible refine Below.drew ?_) | (with_reducible refine below_drewN ?_ _) | (refine Below.trans ?_ (Below.mono (by with_reducible assumption) (by (first | omega | (simp; done) | (simp; omega)))))))⟩
        · have HLt : Hid (polLt s p = true) := Lib.hid (by unfold polLt ltS; exact hid)
          have hid2 : (!Op.bytesLess s.Name.toList p.Name.toList) = false := by rw [hid]; rfl
          go_wp2
          generalize (wr.alloc (.cells #[.string p.Name, .slice Ar p.Rules.length cr] 55)) = W at *
          have q0 := hbt.later
          have q2 := later_cell hcp0
          refine wp_region_later (by kernel_rfl) (by kernel_rfl) ?_
          repeat (first | go_big_quiet_step (((go_at_call 44; exact Calls.later_of (by simpa only [hok] using HI.out _)))) | quiet_step (((go_at_call 44; exact Calls.later_of (by simpa only [hok] using HI.out _)))))
          refine wpQuiet_nil ?_
          intro w3 hb3
          go_wp2
          go_roundw
          case rel => exact ⟨k + 1, by omega, by go_num, by (repeat (first | (with_reducible exact Below.refl _ _) | (with_reducible assumption) | ((with_reducible refine Below.setCell ?_ ?_ _); rotate_left; focus (first | omega | (simp; done) | (simp; omega))) | ((with_reducible refine Below.alloc ?_ ?_ _); rotate_left; focus (first | omega | (simp; done) | (simp; omega))) | (with_reducible refine Below.drew ?_) | (with_reducible refine below_drewN ?_ _) | (refine Below.trans ?_ (Below.mono (by with_reducible assumption) (by (first | omega | (simp; done) | (simp; omega))))))), Lib.hid (by rw [okAll_succ, hinv.out, okAt_next h0 HG.out HS.out, HX.out, HLt.out]; rfl)⟩
          case measure => simp [intOf]; omega
      · have hd0 : decide ((0 : Int) < (k : Int)) = false := by simpa using h0
        go_wp2
        generalize (wr.alloc (.cells #[.string p.Name, .slice Ar p.Rules.length cr] 55)) = W at *
        have q0 := hbt.later
        refine wp_region_later (by kernel_rfl) (by kernel_rfl) ?_
        repeat (first | go_big_quiet_step (((go_at_call 44; exact Calls.later_of (by simpa only [hok] using HI.out _)))) | quiet_step (((go_at_call 44; exact Calls.later_of (by simpa only [hok] using HI.out _)))))
        refine wpQuiet_nil ?_
        intro w3 hb3
        go_wp2
        go_roundw
        case rel => exact ⟨k + 1, by omega, by go_num, by (repeat (first | (with_reducible exact Below.refl _ _) | (with_reducible assumption) | ((with_reducible refine Below.setCell ?_ ?_ _); rotate_left; focus (first | omega | (simp; done) | (simp; omega))) | ((with_reducible refine Below.alloc ?_ ?_ _); rotate_left; focus (first | omega | (simp; done) | (simp; omega))) | (with_reducible refine Below.drew ?_) | (with_reducible refine below_drewN ?_ _) | (refine Below.trans ?_ (Below.mono (by with_reducible assumption) (by (first | omega | (simp; done) | (simp; omega))))))), Lib.hid (by rw [okAll_succ, hinv.out, okAt_first h0 HG.out, HX.out]; rfl)⟩
        case measure => simp [intOf]; omega
    · obtain rfl : k = n := by omega
      have HD : Hid (polsOk ps = decide (k ≤ 200)) := Lib.hid (by rw [polsOk_done (by rw [Hn.out]; exact hinv.out), Hn.out])
      go_wp2
      go_ret
      exact ⟨ret_bool (by rw [HD.out, Bool.eq_iff_iff]; simp only [decide_eq_true_eq]; omega), by (repeat (first | (with_reducible exact Below.refl _ _) | (with_reducible assumption) | ((with_reducible refine Below.setCell ?_ ?_ _); rotate_left; focus (first | omega | (simp; done) | (simp; omega))) | ((with_reducible refine Below.alloc ?_ ?_ _); rotate_left; focus (first | omega | (simp; done) | (simp; omega))) | (with_reducible refine Below.drew ?_) | (with_reducible refine below_drewN ?_ _) | (refine Below.trans ?_ (Below.mono (by with_reducible assumption) (by (first | omega | (simp; done) | (simp; omega)))))))⟩
end Go.Proofs.YtoijmnnjcoogkaaDoor
namespace Go.Proofs.YtoijmnnjcoogkaaDoor
open Go.RowKit
set_option maxHeartbeats 6400000 in
theorem spec_PolicyOk (nm : ByteArray) (A : Option Addr) (c : Nat) (rs : List Rule) (w : World) (hnm : nm.size ≤ 9223372036854775807) (hr : SlRd RuleR w w.heap.size (.slice A rs.length c) rs) (hm : rs.length ≤ 140737488351232) :
    Calls Tryd.prog 38 #[.agg #[.string nm, .slice A rs.length c]] w fun e w' => e = .returned (.bool (polOk ⟨nm, rs⟩)) ∧ Below w.heap.size w w' := by
  have HNm := Lib.hid (fun (w' : World) => spec_l01Name nm hnm w')
  generalize hn : rs.length = n at *
  have Hn := Lib.hid hn
  clear hn
  cases hnn : nameOk nm
  · have HD := Lib.hid (polOk_name (p := ⟨nm, rs⟩) hnn)
    rw [hnn] at HNm
    clear hnn
    go_enter Tryd.func38, Tryd.ntmps38
    go_wp2_with fail
    refine (HNm.out _).mono ?_
    rintro e w' ⟨rfl, rfl⟩
    go_wp2
    go_ret
    exact ⟨ret_bool (by rw [HD.out]), by (repeat (first | (with_reducible exact Below.refl _ _) | (with_reducible assumption) | ((with_reducible refine Below.setCell ?_ ?_ _); rotate_left; focus (first | omega | (simp; done) | (simp; omega))) | ((with_reducible refine Below.alloc ?_ ?_ _); rotate_left; focus (first | omega | (simp; done) | (simp; omega))) | (with_reducible refine Below.drew ?_) | (with_reducible refine below_drewN ?_ _) | (refine Below.trans ?_ (Below.mono (by with_reducible assumption) (by (first | omega | (simp; done) | (simp; omega)))))))⟩
  have HNn := Lib.hid hnn
  rw [hnn] at HNm
  clear hnn
  by_cases hl : n ≤ 20
  rotate_left
  · have HD := Lib.hid (polOk_long (p := ⟨nm, rs⟩) (by dsimp only; rw [Hn.out]; exact hl))
    have hlI : (20 : Int) < (n : Int) := by omega
    go_enter Tryd.func38, Tryd.ntmps38
    go_wp2_with fail
    refine (HNm.out _).mono ?_
    rintro e w' ⟨rfl, rfl⟩
    go_wp2
    go_ret
    exact ⟨ret_bool (by rw [HD.out]), by (repeat (first | (with_reducible exact Below.refl _ _) | (with_reducible assumption) | ((with_reducible refine Below.setCell ?_ ?_ _); rotate_left; focus (first | omega | (simp; done) | (simp; omega))) | ((with_reducible refine Below.alloc ?_ ?_ _); rotate_left; focus (first | omega | (simp; done) | (simp; omega))) | (with_reducible refine Below.drew ?_) | (with_reducible refine below_drewN ?_ _) | (refine Below.trans ?_ (Below.mono (by with_reducible assumption) (by (first | omega | (simp; done) | (simp; omega)))))))⟩
  have HL := Lib.hid hl
  go_enter Tryd.func38, Tryd.ntmps38
  go_wp2_with fail
  refine (HNm.out _).mono ?_
  rintro e w' ⟨rfl, rfl⟩
  go_wp2
  go_loopw [3] (fun i wr => ∃ k : Nat, k ≤ n ∧ i = .int .i64 k ∧ Below w.heap.size w wr ∧ Blk wr w.heap.size 55 #[.string nm, .slice A n c] ∧ Hid (okAll ruleOk ruleLt rs k = true)) (fun i _ => n - (intOf i).toNat)
  case atStart => exact ⟨0, Nat.zero_le _, rfl, by (repeat (first | (with_reducible exact Below.refl _ _) | (with_reducible assumption) | ((with_reducible refine Below.setCell ?_ ?_ _); rotate_left; focus (first | omega | (simp; done) | (simp; omega))) | ((with_reducible refine Below.alloc ?_ ?_ _); rotate_left; focus (first | omega | (simp; done) | (simp; omega))) | (with_reducible refine Below.drew ?_) | (with_reducible refine below_drewN ?_ _) | (refine Below.trans ?_ (Below.mono (by with_reducible assumption) (by (first | omega | (simp; done) | (simp; omega))))))), by (repeat (first | (with_reducible assumption) | ((with_reducible refine Blk.new' ?_); focus (simp; done)) | (with_reducible refine Blk.alloc ?_ _) | (with_reducible refine Blk.drew ?_) | (with_reducible refine Blk.drewN ?_ _) | ((with_reducible refine Blk.far ?_ ?_ _); rotate_left; focus (first | omega | (simp; done) | (simp; omega))) | (refine Blk.keep ?_ (by with_reducible assumption)) | (refine Blk.below ?_ (by with_reducible assumption) (by (first | omega | (simp; done) | (simp; omega)))))), Lib.hid rfl⟩
  case round =>
    obtain ⟨k, hk, rfl, hb, hbk, hinv⟩ := hrel
    have hc0 := hbk.cell
    by_cases hlt : k < n
    · have hlx : k < rs.length := by rw [Hn.out]; exact hlt
      have HLx := Lib.hid hlx
      have HG := Lib.hid (List.getElem?_eq_getElem hlx)
      generalize rs[k]'hlx = r at HG
      clear hlx
      have hrW := hr.below hb (Nat.le_refl _)
      obtain ⟨b, off, rfl, hab, hps, hq0, hq1⟩ := rule_elem hrW HG.out
      have hzr := hb.size
      have HI := Lib.hid (fun (n' : Lt wr) => spec_GlobOk r.Glob (later _ n') hps)
      have HW := Lib.hid (fun (w' : World) => spec_l01In r.Caps 0 63 w')
      cases hg : globOk r.Glob
      · have HX := Lib.hid (ruleOk_glob hg)
        go_wp2
        have q0 := hbk.later
        have q1 := later_cell hq0
        have q3 := later_cell hq1
        refine wp_region_later (by kernel_rfl) (by kernel_rfl) ?_
        repeat (first | go_big_quiet_step (((go_at_call 55; exact Calls.later_of (by simpa only [hg] using HI.out _)))) | quiet_step (((go_at_call 55; exact Calls.later_of (by simpa only [hg] using HI.out _)))))
        refine wpQuiet_nil ?_
        intro w3 hb3
        go_wp2
        go_ret
        exact ⟨ret_bool (by rw [polOk_rules (rulesOk_bad HLx.out (okAt_bad HG.out HX.out))]), by (repeat (first | (with_reducible exact Below.refl _ _) | (with_reducible assumption) | ((with_reducible refine Below.setCell ?_ ?_ _); rotate_left; focus (first | omega | (simp; done) | (simp; omega))) | ((with_reducible refine Below.alloc ?_ ?_ _); rotate_left; focus (first | omega | (simp; done) | (simp; omega))) | (with_reducible refine Below.drew ?_) | (with_reducible refine below_drewN ?_ _) | (refine Below.trans ?_ (Below.mono (by with_reducible assumption) (by (first | omega | (simp; done) | (simp; omega)))))))⟩
      cases hcp : withinB r.Caps 0 63
      · have HX := Lib.hid (ruleOk_caps hcp)
        rw [hcp] at HW
        go_wp2
        have q0 := hbk.later
        have q1 := later_cell hq0
        have q3 := later_cell hq1
        refine wp_region_later (by kernel_rfl) (by kernel_rfl) ?_
        repeat (first | go_big_quiet_step ((first | (go_at_call 55; exact Calls.later_of (by simpa only [hg] using HI.out _)) | (go_at_call 56; exact Calls.later_of ((HW.out _).mono (fun _ _ h => ⟨h.1, h.2 ▸ Below.refl _ _⟩))))) | quiet_step ((first | (go_at_call 55; exact Calls.later_of (by simpa only [hg] using HI.out _)) | (go_at_call 56; exact Calls.later_of ((HW.out _).mono (fun _ _ h => ⟨h.1, h.2 ▸ Below.refl _ _⟩))))))
        refine wpQuiet_nil ?_
        intro w3 hb3
        go_wp2
        go_ret
        exact ⟨ret_bool (by rw [polOk_rules (rulesOk_bad HLx.out (okAt_bad HG.out HX.out))]), by (repeat (first | (with_reducible exact Below.refl _ _) | (with_reducible assumption) | ((with_reducible refine Below.setCell ?_ ?_ _); rotate_left; focus (first | omega | (simp; done) | (simp; omega))) | ((with_reducible refine Below.alloc ?_ ?_ _); rotate_left; focus (first | omega | (simp; done) | (simp; omega))) | (with_reducible refine Below.drew ?_) | (with_reducible refine below_drewN ?_ _) | (refine Below.trans ?_ (Below.mono (by with_reducible assumption) (by (first | omega | (simp; done) | (simp; omega)))))))⟩
      have HX := Lib.hid (ruleOk_yes hg hcp)
      rw [hcp] at HW
      by_cases h0 : 0 < k
      · have hs1 : k - 1 < rs.length := by rw [Hn.out]; omega
        have HS := Lib.hid (List.getElem?_eq_getElem hs1)
        generalize rs[k - 1]'hs1 = s at HS
        clear hs1
        obtain ⟨b', off', e', -, -, hcp0, -⟩ := rule_elem hrW HS.out
        simp only [Option.some.injEq, Addr.mk.injEq, and_true] at e'
        obtain ⟨rfl, rfl⟩ := e'
        have hd0 : decide ((0 : Int) < (k : Int)) = true := by simpa using h0
        cases hid : Op.bytesLess s.Glob.toList r.Glob.toList
        · have HLt : Hid (ruleLt s r = false) := Lib.hid (by unfold ruleLt ltS; exact hid)
          have hid2 : (!Op.bytesLess s.Glob.toList r.Glob.toList) = true := by rw [hid]; rfl
          go_wp2
          have q0 := hbk.later
          have q1 := later_cell hq0
          have q3 := later_cell hq1
          have q2 := later_cell hcp0
          refine wp_region_later (by kernel_rfl) (by kernel_rfl) ?_
          repeat (first | go_big_quiet_step ((first | (go_at_call 55; exact Calls.later_of (by simpa only [hg] using HI.out _)) | (go_at_call 56; exact Calls.later_of ((HW.out _).mono (fun _ _ h => ⟨h.1, h.2 ▸ Below.refl _ _⟩))))) | quiet_step ((first | (go_at_call 55; exact Calls.later_of (by simpa only [hg] using HI.out _)) | (go_at_call 56; exact Calls.later_of ((HW.out _).mono (fun _ _ h => ⟨h.1, h.2 ▸ Below.refl _ _⟩))))))
          refine wpQuiet_nil ?_
          intro w3 hb3
          go_wp2
          go_ret
          exact ⟨ret_bool (by rw [polOk_rules (rulesOk_bad HLx.out (okAt_order h0 HG.out HS.out HLt.out))]), by (repeat (first | (with_reducible exact Below.refl _ _) | (with_reducible assumption) | ((with_reducible refine Below.setCell ?_ ?_ _); rotate_left; focus (first | omega | (simp; done) | (simp; omega))) | ((with_reducible refine Below.alloc ?_ ?_ _); rotate_left; focus (first | omega | (simp; done) | (simp; omega))) | (with_reducible refine Below.drew ?_) | (with_reducible refine below_drewN ?_ _) | (refine Below.trans ?_ (Below.mono (by with_reducible assumption) (by (first | omega | (simp; done) | (simp; omega)))))))⟩
        · have HLt : Hid (ruleLt s r = true) := Lib.hid (by unfold ruleLt ltS; exact hid)
          have hid2 : (!Op.bytesLess s.Glob.toList r.Glob.toList) = false := by rw [hid]; rfl
          go_wp2
          have q0 := hbk.later
          have q1 := later_cell hq0
          have q3 := later_cell hq1
          have q2 := later_cell hcp0
          refine wp_region_later (by kernel_rfl) (by kernel_rfl) ?_
          repeat (first | go_big_quiet_step ((first | (go_at_call 55; exact Calls.later_of (by simpa only [hg] using HI.out _)) | (go_at_call 56; exact Calls.later_of ((HW.out _).mono (fun _ _ h => ⟨h.1, h.2 ▸ Below.refl _ _⟩))))) | quiet_step ((first | (go_at_call 55; exact Calls.later_of (by simpa only [hg] using HI.out _)) | (go_at_call 56; exact Calls.later_of ((HW.out _).mono (fun _ _ h => ⟨h.1, h.2 ▸ Below.refl _ _⟩))))))
          refine wpQuiet_nil ?_
          intro w3 hb3
          go_wp2
          go_roundw
          case rel => exact ⟨k + 1, by omega, by go_num, by (repeat (first | (with_reducible exact Below.refl _ _) | (with_reducible assumption) | ((with_reducible refine Below.setCell ?_ ?_ _); rotate_left; focus (first | omega | (simp; done) | (simp; omega))) | ((with_reducible refine Below.alloc ?_ ?_ _); rotate_left; focus (first | omega | (simp; done) | (simp; omega))) | (with_reducible refine Below.drew ?_) | (with_reducible refine below_drewN ?_ _) | (refine Below.trans ?_ (Below.mono (by with_reducible assumption) (by (first | omega | (simp; done) | (simp; omega))))))), hbk.keep hb3, Lib.hid (by rw [okAll_succ, hinv.out, okAt_next h0 HG.out HS.out, HX.out, HLt.out]; rfl)⟩
          case measure => simp [intOf]; omega
      · have hd0 : decide ((0 : Int) < (k : Int)) = false := by simpa using h0
        go_wp2
        have q0 := hbk.later
        have q1 := later_cell hq0
        have q3 := later_cell hq1
        refine wp_region_later (by kernel_rfl) (by kernel_rfl) ?_
        repeat (first | go_big_quiet_step ((first | (go_at_call 55; exact Calls.later_of (by simpa only [hg] using HI.out _)) | (go_at_call 56; exact Calls.later_of ((HW.out _).mono (fun _ _ h => ⟨h.1, h.2 ▸ Below.refl _ _⟩))))) | quiet_step ((first | (go_at_call 55; exact Calls.later_of (by simpa only [hg] using HI.out _)) | (go_at_call 56; exact Calls.later_of ((HW.out _).mono (fun _ _ h => ⟨h.1, h.2 ▸ Below.refl _ _⟩))))))
        refine wpQuiet_nil ?_
        intro w3 hb3
        go_wp2
        go_roundw
        case rel => exact ⟨k + 1, by omega, by go_num, by (repeat (first | (with_reducible exact Below.refl _ _) | (with_reducible assumption) | ((with_reducible refine Below.setCell ?_ ?_ _); rotate_left; focus (first | omega | (simp; done) | (simp; omega))) | ((with_reducible refine Below.alloc ?_ ?_ _); rotate_left; focus (first | omega | (simp; done) | (simp; omega))) | (with_reducible refine Below.drew ?_) | (with_reducible refine below_drewN ?_ _) | (refine Below.trans ?_ (Below.mono (by with_reducible assumption) (by (first | omega | (simp; done) | (simp; omega))))))), hbk.keep hb3, Lib.hid (by rw [okAll_succ, hinv.out, okAt_first h0 HG.out, HX.out]; rfl)⟩
        case measure => simp [intOf]; omega
    · obtain rfl : k = n := by omega
      have HD : Hid (polOk ⟨nm, rs⟩ = true) := Lib.hid (by rw [polOk_last (p := ⟨nm, rs⟩) HNn.out (by dsimp only; rw [Hn.out]; exact HL.out)]; unfold rulesOk; dsimp only; rw [Hn.out]; exact hinv.out)
      go_wp2
      go_ret
      exact ⟨ret_bool (by rw [HD.out]), by (repeat (first | (with_reducible exact Below.refl _ _) | (with_reducible assumption) | ((with_reducible refine Below.setCell ?_ ?_ _); rotate_left; focus (first | omega | (simp; done) | (simp; omega))) | ((with_reducible refine Below.alloc ?_ ?_ _); rotate_left; focus (first | omega | (simp; done) | (simp; omega))) | (with_reducible refine Below.drew ?_) | (with_reducible refine below_drewN ?_ _) | (refine Below.trans ?_ (Below.mono (by with_reducible assumption) (by (first | omega | (simp; done) | (simp; omega)))))))⟩
end Go.Proofs.YtoijmnnjcoogkaaDoor
namespace Go.Proofs.YtoijmnnjcoogkaaDoor
open Go.RowKit
set_option maxHeartbeats 6400000 in
theorem spec_l08Policies (A : Option Addr) (c : Nat) (ps : List Policy) (w : World) (hr : SlRd PolicyR w w.heap.size (.slice A ps.length c) ps) (hm : szList PolicyR ps ≤ 1048576) :
    Calls Tryd.prog 18 #[.slice A ps.length c] w fun e w' => e = .returned (.bool (polsOk ps)) ∧ Below w.heap.size w w' := by
  have HSm := Lib.hid (fun (k : Nat) (p : Policy) (h : ps[k]? = some p) => Nat.le_trans (szList_one (R := PolicyR) h) hm)
  have hpl : ps.length ≤ 1048576 := Nat.le_trans (Nat.le_add_right _ _) hm
  generalize hn : ps.length = n at *
  have Hn := Lib.hid hn
  clear hn hm
  by_cases hl : n ≤ 200
  rotate_left
  · have HD := Lib.hid (polsOk_long (ps := ps) (by rw [Hn.out]; exact hl))
    have hlI : (200 : Int) < (n : Int) := by omega
    go_enter Tryd.func18, Tryd.ntmps18
    go_wp2
    go_ret
    exact ⟨ret_bool (by rw [HD.out]), by (repeat (first | (with_reducible exact Below.refl _ _) | (with_reducible assumption) | ((with_reducible refine Below.setCell ?_ ?_ _); rotate_left; focus (first | omega | (simp; done) | (simp; omega))) | ((with_reducible refine Below.alloc ?_ ?_ _); rotate_left; focus (first | omega | (simp; done) | (simp; omega))) | (with_reducible refine Below.drew ?_) | (with_reducible refine below_drewN ?_ _) | (refine Below.trans ?_ (Below.mono (by with_reducible assumption) (by (first | omega | (simp; done) | (simp; omega)))))))⟩
  have HL := Lib.hid hl
  go_enter Tryd.func18, Tryd.ntmps18
  go_wp2
  go_loopw [3] (fun i wr => ∃ k : Nat, k ≤ n ∧ i = .int .i64 k ∧ Below w.heap.size w wr ∧ Hid (okAll polOk polLt ps k = true)) (fun i _ => n - (intOf i).toNat)
  case atStart => exact ⟨0, Nat.zero_le _, rfl, by (repeat (first | (with_reducible exact Below.refl _ _) | (with_reducible assumption) | ((with_reducible refine Below.setCell ?_ ?_ _); rotate_left; focus (first | omega | (simp; done) | (simp; omega))) | ((with_reducible refine Below.alloc ?_ ?_ _); rotate_left; focus (first | omega | (simp; done) | (simp; omega))) | (with_reducible refine Below.drew ?_) | (with_reducible refine below_drewN ?_ _) | (refine Below.trans ?_ (Below.mono (by with_reducible assumption) (by (first | omega | (simp; done) | (simp; omega))))))), Lib.hid rfl⟩
  case round =>
    obtain ⟨k, hk, rfl, hb, hinv⟩ := hrel
    by_cases hlt : k < n
    · have hlx : k < ps.length := by rw [Hn.out]; exact hlt
      have HLx := Lib.hid hlx
      have HG := Lib.hid (List.getElem?_eq_getElem hlx)
      generalize ps[k]'hlx = p at HG
      clear hlx
      have hzr := hb.size
      obtain ⟨b, off, Ar, cr, rfl, hab, hps, hru, hq0, hq1⟩ := pol_elem (hr.below hb (Nat.le_refl _)) HG.out
      have hsm := HSm.out k p HG.out
      rw [sz_Policy] at hsm
      have hrl : p.Rules.length ≤ 1048576 := by unfold szList at hsm; omega
      clear hsm
      have hrW : SlRd PolicyR wr w.heap.size (.slice (some ⟨b, off, none⟩) n c) ps := hr.below hb (Nat.le_refl _)
      have HI : Hid (∀ n' : Lt wr, Calls Tryd.prog 38 #[.agg #[.string p.Name, .slice Ar p.Rules.length cr]] (later _ n') fun e w' => e = .returned (.bool (polOk p)) ∧ Below (later _ n').heap.size (later _ n') w') := Lib.hid (fun n' => spec_PolicyOk p.Name Ar cr p.Rules (later _ n') hps ((hru.below ((later_below _ n').mono hzr : Below w.heap.size wr (later _ n')) (Nat.le_refl _)).more (Nat.le_trans hzr (later_below _ n').size)) (by omega))
      cases hok : polOk p
      · have HX := Lib.hid hok
        go_wp2
        have q0 := later_cell hq0
        have q1 := later_cell hq1
        refine wp_region_later (by kernel_rfl) (by kernel_rfl) ?_
        repeat (first | go_big_quiet_step (((go_at_call 38; exact Calls.later_of (by simpa only [hok] using HI.out _)))) | quiet_step (((go_at_call 38; exact Calls.later_of (by simpa only [hok] using HI.out _)))))
        refine wpQuiet_nil ?_
        intro w3 hb3
        go_wp2
        go_ret
        exact ⟨ret_bool (by rw [polsOk_bad HLx.out (okAt_bad HG.out HX.out)]), by (repeat (first | (with_reducible exact Below.refl _ _) | (with_reducible assumption) | ((with_reducible refine Below.setCell ?_ ?_ _); rotate_left; focus (first | omega | (simp; done) | (simp; omega))) | ((with_reducible refine Below.alloc ?_ ?_ _); rotate_left; focus (first | omega | (simp; done) | (simp; omega))) | (with_reducible refine Below.drew ?_) | (with_reducible refine below_drewN ?_ _) | (refine Below.trans ?_ (Below.mono (by with_reducible assumption) (by (first | omega | (simp; done) | (simp; omega)))))))⟩
      have HX := Lib.hid hok
      by_cases h0 : 0 < k
      · have hs1 : k - 1 < ps.length := by rw [Hn.out]; omega
        have HS := Lib.hid (List.getElem?_eq_getElem hs1)
        generalize ps[k - 1]'hs1 = s at HS
        clear hs1
        obtain ⟨b', off', As, cs, e', -, -, -, hcp0, -⟩ := pol_elem hrW HS.out
        simp only [Option.some.injEq, Addr.mk.injEq, and_true] at e'
        obtain ⟨rfl, rfl⟩ := e'
        have hd0 : decide ((0 : Int) < (k : Int)) = true := by simpa using h0
        cases hid : Op.bytesLess s.Name.toList p.Name.toList
        · have HLt : Hid (polLt s p = false) := Lib.hid (by unfold polLt ltS; exact hid)
          have hid2 : (!Op.bytesLess s.Name.toList p.Name.toList) = true := by rw [hid]; rfl
          go_wp2
          have q0 := later_cell hq0
          have q1 := later_cell hq1
          have q2 := later_cell hcp0
          refine wp_region_later (by kernel_rfl) (by kernel_rfl) ?_
          repeat (first | go_big_quiet_step (((go_at_call 38; exact Calls.later_of (by simpa only [hok] using HI.out _)))) | quiet_step (((go_at_call 38; exact Calls.later_of (by simpa only [hok] using HI.out _)))))
          refine wpQuiet_nil ?_
          intro w3 hb3
          go_wp2
          go_ret
          exact ⟨ret_bool (by rw [polsOk_bad HLx.out (okAt_order h0 HG.out HS.out HLt.out)]), by (repeat (first | (with_reducible exact Below.refl _ _) | (with_reducible assumption) | ((with_reducible refine Below.setCell ?_ ?_ _); rotate_left; focus (first | omega | (simp; done) | (simp; omega))) | ((with_reducible refine Below.alloc ?_ ?_ _); rotate_left; focus (first | omega | (simp; done) | (simp; omega))) | (with_reducible refine Below.drew ?_) | (with_reducible refine below_drewN ?_ _) | (refine Below.trans ?_ (Below.mono (by with_reducible assumption) (by (first | omega | (simp; done) | (simp; omega)))))))⟩
        · have HLt : Hid (polLt s p = true) := Lib.hid (by unfold polLt ltS; exact hid)
          have hid2 : (!Op.bytesLess s.Name.toList p.Name.toList) = false := by rw [hid]; rfl
          go_wp2
          have q0 := later_cell hq0
          have q1 := later_cell hq1
          have q2 := later_cell hcp0
          refine wp_region_later (by kernel_rfl) (by kernel_rfl) ?_
          repeat (first | go_big_quiet_step (((go_at_call 38; exact Calls.later_of (by simpa only [hok] using HI.out _)))) | quiet_step (((go_at_call 38; exact Calls.later_of (by simpa only [hok] using HI.out _)))))
          refine wpQuiet_nil ?_
          intro w3 hb3
          go_wp2
          go_roundw
          case rel => exact ⟨k + 1, by omega, by go_num, by (repeat (first | (with_reducible exact Below.refl _ _) | (with_reducible assumption) | ((with_reducible refine Below.setCell ?_ ?_ _); rotate_left; focus (first | omega | (simp; done) | (simp; omega))) | ((with_reducible refine Below.alloc ?_ ?_ _); rotate_left; focus (first | omega | (simp; done) | (simp; omega))) | (with_reducible refine Below.drew ?_) | (with_reducible refine below_drewN ?_ _) | (refine Below.trans ?_ (Below.mono (by with_reducible assumption) (by (first | omega | (simp; done) | (simp; omega))))))), Lib.hid (by rw [okAll_succ, hinv.out, okAt_next h0 HG.out HS.out, HX.out, HLt.out]; rfl)⟩
          case measure => simp [intOf]; omega
      · have hd0 : decide ((0 : Int) < (k : Int)) = false := by simpa using h0
        go_wp2
        have q0 := later_cell hq0
        have q1 := later_cell hq1
        refine wp_region_later (by kernel_rfl) (by kernel_rfl) ?_
        repeat (first | go_big_quiet_step (((go_at_call 38; exact Calls.later_of (by simpa only [hok] using HI.out _)))) | quiet_step (((go_at_call 38; exact Calls.later_of (by simpa only [hok] using HI.out _)))))
        refine wpQuiet_nil ?_
        intro w3 hb3
        go_wp2
        go_roundw
        case rel => exact ⟨k + 1, by omega, by go_num, by (repeat (first | (with_reducible exact Below.refl _ _) | (with_reducible assumption) | ((with_reducible refine Below.setCell ?_ ?_ _); rotate_left; focus (first | omega | (simp; done) | (simp; omega))) | ((with_reducible refine Below.alloc ?_ ?_ _); rotate_left; focus (first | omega | (simp; done) | (simp; omega))) | (with_reducible refine Below.drew ?_) | (with_reducible refine below_drewN ?_ _) | (refine Below.trans ?_ (Below.mono (by with_reducible assumption) (by (first | omega | (simp; done) | (simp; omega))))))), Lib.hid (by rw [okAll_succ, hinv.out, okAt_first h0 HG.out, HX.out]; rfl)⟩
        case measure => simp [intOf]; omega
    · obtain rfl : k = n := by omega
      have HD : Hid (polsOk ps = decide (k ≤ 200)) := Lib.hid (by rw [polsOk_done (by rw [Hn.out]; exact hinv.out), Hn.out])
      go_wp2
      go_ret
      exact ⟨ret_bool (by rw [HD.out, decide_eq_true HL.out]), by (repeat (first | (with_reducible exact Below.refl _ _) | (with_reducible assumption) | ((with_reducible refine Below.setCell ?_ ?_ _); rotate_left; focus (first | omega | (simp; done) | (simp; omega))) | ((with_reducible refine Below.alloc ?_ ?_ _); rotate_left; focus (first | omega | (simp; done) | (simp; omega))) | (with_reducible refine Below.drew ?_) | (with_reducible refine below_drewN ?_ _) | (refine Below.trans ?_ (Below.mono (by with_reducible assumption) (by (first | omega | (simp; done) | (simp; omega)))))))⟩
end Go.Proofs.YtoijmnnjcoogkaaDoor

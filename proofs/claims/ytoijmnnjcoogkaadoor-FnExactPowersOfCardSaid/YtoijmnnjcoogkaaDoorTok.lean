/- One token by itself: isToken of the program, l08Token of the reference. -/
import Derived.Test.YtoijmnnjcoogkaaDoorAreNames
import Derived.Test.YtoijmnnjcoogkaaDoorToken2
import Derived.Deep.DeepCutAuto
set_option linter.unusedSimpArgs false
set_option linter.unusedVariables false
set_option maxRecDepth 20000
namespace Go.Proofs.YtoijmnnjcoogkaaDoor
open Go.RowKit
def endsOk (t : Token) : Bool := t.Ends == 0 || withinB t.Ends (t.Made + 1) 1000000000
def limitOk (t : Token) : Bool := t.Limit == 0 || (withinB t.Limit (t.Made + 1) 1000000000 && (t.Ends != 0 && decide (t.Ends ≤ t.Limit)))
def tokOk (t : Token) : Bool := withinB t.Id 1 1000000000 && (withinB t.Parent 0 (t.Id - 1) && (namesOk t.Names && (withinB t.Made 0 1000000000 && (endsOk t && (limitOk t && withinB t.Uses 0 1000)))))
def endsW (t : Token) (m : Int) : Bool := t.Ends == 0 || withinB t.Ends m 1000000000
def limitW (t : Token) (m : Int) : Bool := t.Limit == 0 || (withinB t.Limit m 1000000000 && (t.Ends != 0 && decide (t.Ends ≤ t.Limit)))
theorem tokOk_W (t : Token) : tokOk t = (withinB t.Id 1 1000000000 && (withinB t.Parent 0 (t.Id - 1) && (namesOk t.Names && (withinB t.Made 0 1000000000 && (endsW t (wrap64 (t.Made + 1)) && (limitW t (wrap64 (t.Made + 1)) && withinB t.Uses 0 1000)))))) := by
  unfold tokOk
  cases h : withinB t.Made 0 1000000000
  · simp
  · have h2 := withinB_iff.1 h
    have e : wrap64 (t.Made + 1) = t.Made + 1 := by unfold wrap64; omega
    rw [e]
    rfl
abbrev tokCells (t : Token) (A : Option Addr) (c : Nat) : List Value := [.int .i64 t.Id, .int .i64 t.Parent, .slice A t.Names.length c, .int .i64 t.Made, .int .i64 t.Ends, .int .i64 t.Limit, .int .i64 t.Uses]
set_option maxRecDepth 20000 in
set_option maxHeartbeats 6400000 in
theorem impl_isToken (t : Token) (A : Option Addr) (c : Nat) (w : World) (hr : Reads w w.heap.size A (t.Names.map strV)) (hs : ∀ s ∈ t.Names, s.size ≤ 9223372036854775807) (hm : t.Names.length ≤ 140737488351232) :
    Calls Tryd.prog 43 #[.agg #[.int .i64 t.Id, .int .i64 t.Parent, .slice A t.Names.length c, .int .i64 t.Made, .int .i64 t.Ends, .int .i64 t.Limit, .int .i64 t.Uses]] w fun e w' => e = .returned (.bool (tokOk t)) ∧ Below w.heap.size w w' := by
  have HN := Lib.hid (fun w' (h : Reads w' w'.heap.size A (t.Names.map strV)) => impl_areNames A c t.Names w' h hs hm)
  have hr2 : Reads (w.alloc (.cells #[.int .i64 t.Id, .int .i64 t.Parent, .slice A t.Names.length c, .int .i64 t.Made, .int .i64 t.Ends, .int .i64 t.Limit, .int .i64 t.Uses] 48)) (w.heap.size + 1) A (t.Names.map strV) := hr.keep (by (repeat (first | (with_reducible exact Below.refl _ _) | (with_reducible assumption) | ((with_reducible refine Below.setCell ?_ ?_ _); rotate_left; focus (first | omega | (simp; done) | (simp; omega))) | ((with_reducible refine Below.alloc ?_ ?_ _); rotate_left; focus (first | omega | (simp; done) | (simp; omega))) | (with_reducible refine Below.drew ?_) | (with_reducible refine below_drewN ?_ _) | (refine Below.trans ?_ (Below.mono (by with_reducible assumption) (by (first | omega | (simp; done) | (simp; omega)))))))) (by omega)
  have BK : Blk (w.alloc (.cells #[.int .i64 t.Id, .int .i64 t.Parent, .slice A t.Names.length c, .int .i64 t.Made, .int .i64 t.Ends, .int .i64 t.Limit, .int .i64 t.Uses] 48)) w.heap.size 48 #[.int .i64 t.Id, .int .i64 t.Parent, .slice A t.Names.length c, .int .i64 t.Made, .int .i64 t.Ends, .int .i64 t.Limit, .int .i64 t.Uses] := Blk.new _ _ _
  cases hid : withinB t.Id 1 1000000000
  · have HR : Hid (tokOk t = false) := Lib.hid (by unfold tokOk; rw [hid]; rfl)
    have HI := Lib.hid hid
    clear hid
    go_enter Tryd.func43, Tryd.ntmps43
    go_wp2_with (go_at_call 59; first | ((with_reducible refine (impl_within_b HI.out _).mono ?_); rintro e w' ⟨rfl, rfl⟩) | (refine (impl_within _ _ _ _).mono ?_; rintro e w' ⟨rfl, rfl⟩))
    all_goals (go_ret; exact ⟨ret_bool (by rw [HR.out]), by (repeat (first | (with_reducible exact Below.refl _ _) | (with_reducible assumption) | ((with_reducible refine Below.setCell ?_ ?_ _); rotate_left; focus (first | omega | (simp; done) | (simp; omega))) | ((with_reducible refine Below.alloc ?_ ?_ _); rotate_left; focus (first | omega | (simp; done) | (simp; omega))) | (with_reducible refine Below.drew ?_) | (with_reducible refine below_drewN ?_ _) | (refine Below.trans ?_ (Below.mono (by with_reducible assumption) (by (first | omega | (simp; done) | (simp; omega)))))))⟩)
  · obtain ⟨hi1, hi2⟩ := withinB_iff.1 hid
    have HI := Lib.hid hid
    obtain ⟨m, hm⟩ : ∃ m, m = wrap64 (t.Made + 1) := ⟨_, rfl⟩
    have HT : Hid (tokOk t = (withinB t.Parent 0 (t.Id - 1) && (namesOk t.Names && (withinB t.Made 0 1000000000 && (endsW t m && (limitW t m && withinB t.Uses 0 1000)))))) := Lib.hid (by rw [tokOk_W, hid, hm]; rfl)
    have HM := Lib.hid hm.symm
    clear hid hm
    go_enter Tryd.func43, Tryd.ntmps43
    go_upto_region 1 with fail
    go_cut [3] (fun s3 wx => s3 = .bool (endsW t m) ∧ wx = w.alloc (.cells #[.int .i64 t.Id, .int .i64 t.Parent, .slice A t.Names.length c, .int .i64 t.Made, .int .i64 t.Ends, .int .i64 t.Limit, .int .i64 t.Uses] 48))
    case first =>
      cases hE0 : t.Ends == 0
      all_goals
        go_wp2_with (go_at_call 59; refine (impl_within _ _ _ _).mono ?_; rintro e w' ⟨rfl, rfl⟩)
        go_meet
        exact ⟨by unfold endsW; rw [hE0, ← HM.out]; rfl, rfl⟩
    case rest =>
      obtain ⟨rfl, rfl⟩ := hcut
      go_upto_region 2 with fail
      go_cut [4] (fun s4 wx => s4 = .bool (limitW t m) ∧ wx = w.alloc (.cells #[.int .i64 t.Id, .int .i64 t.Parent, .slice A t.Names.length c, .int .i64 t.Made, .int .i64 t.Ends, .int .i64 t.Limit, .int .i64 t.Uses] 48))
      case first =>
        cases hL0 : t.Limit == 0
        all_goals cases hW0 : withinB t.Limit m 1000000000
        all_goals cases hE0 : t.Ends != 0
        all_goals
          have HX : Hid (limitW t m = _) := Lib.hid (by unfold limitW; rw [hL0, hW0, hE0])
          have HW := Lib.hid ((congrArg (fun z => withinB t.Limit z 1000000000) HM.out).trans hW0)
          clear hW0
          go_wp2_with (go_at_call 59; refine (impl_within_b HW.out _).mono ?_; rintro e w' ⟨rfl, rfl⟩)
          go_meet
          exact ⟨by rw [HX.out]; first | rfl | (simp; done), rfl⟩
      case rest =>
        obtain ⟨rfl, rfl⟩ := hcut
        generalize hE : endsW t m = E at *
        generalize hL : limitW t m = L at *
        generalize hP : withinB t.Parent 0 (t.Id - 1) = P at *
        generalize hD : withinB t.Made 0 1000000000 = D at *
        generalize hU : withinB t.Uses 0 1000 = U at *
        have HP := Lib.hid hP; have HD := Lib.hid hD; have HU := Lib.hid hU
        generalize hNm : namesOk t.Names = N at *
        clear hE hL hP hD hU hNm HM
        have hbw : Below w.heap.size w (w.alloc (.cells #[.int .i64 t.Id, .int .i64 t.Parent, .slice A t.Names.length c, .int .i64 t.Made, .int .i64 t.Ends, .int .i64 t.Limit, .int .i64 t.Uses] 48)) := by (repeat (first | (with_reducible exact Below.refl _ _) | (with_reducible assumption) | ((with_reducible refine Below.setCell ?_ ?_ _); rotate_left; focus (first | omega | (simp; done) | (simp; omega))) | ((with_reducible refine Below.alloc ?_ ?_ _); rotate_left; focus (first | omega | (simp; done) | (simp; omega))) | (with_reducible refine Below.drew ?_) | (with_reducible refine below_drewN ?_ _) | (refine Below.trans ?_ (Below.mono (by with_reducible assumption) (by (first | omega | (simp; done) | (simp; omega)))))))
        have hc0 := BK.cell
        have hW1 := BK.lt
        replace hW1 : w.heap.size + 1 ≤ _ := hW1
        generalize w.alloc (.cells #[.int .i64 t.Id, .int .i64 t.Parent, .slice A t.Names.length c, .int .i64 t.Made, .int .i64 t.Ends, .int .i64 t.Limit, .int .i64 t.Uses] 48) = W at *
        go_wp2_with (first
          | (go_at_call 59; first | ((with_reducible refine (impl_within_b HI.out _).mono ?_); rintro e w' ⟨rfl, rfl⟩) | ((with_reducible refine (impl_within_b HP.out _).mono ?_); rintro e w' ⟨rfl, rfl⟩) | ((with_reducible refine (impl_within_b HD.out _).mono ?_); rintro e w' ⟨rfl, rfl⟩) | ((with_reducible refine (impl_within_b HU.out _).mono ?_); rintro e w' ⟨rfl, rfl⟩))
          | (go_at_call 60; refine (HN.out _ (hr2.more hW1)).mono ?_; rintro e w2 ⟨rfl, hb2⟩; have BK2 := BK.keep hb2; have hc2 := BK2.cell))
        all_goals (go_ret; exact ⟨ret_bool (by rw [HT.out]; simp_all), by (repeat (first | (with_reducible exact Below.refl _ _) | (with_reducible assumption) | ((with_reducible refine Below.setCell ?_ ?_ _); rotate_left; focus (first | omega | (simp; done) | (simp; omega))) | ((with_reducible refine Below.alloc ?_ ?_ _); rotate_left; focus (first | omega | (simp; done) | (simp; omega))) | (with_reducible refine Below.drew ?_) | (with_reducible refine below_drewN ?_ _) | (refine Below.trans ?_ (Below.mono (by with_reducible assumption) (by (first | omega | (simp; done) | (simp; omega)))))))⟩)
set_option maxRecDepth 20000 in
set_option maxHeartbeats 6400000 in
theorem spec_l08Token (t : Token) (A : Option Addr) (c : Nat) (w : World) (hr : Reads w w.heap.size A (t.Names.map strV)) (hs : ∀ s ∈ t.Names, s.size ≤ 9223372036854775807) (hm : t.Names.length ≤ 140737488351232) :
    Calls Tryd.prog 52 #[.agg #[.int .i64 t.Id, .int .i64 t.Parent, .slice A t.Names.length c, .int .i64 t.Made, .int .i64 t.Ends, .int .i64 t.Limit, .int .i64 t.Uses]] w fun e w' => e = .returned (.bool (tokOk t)) ∧ Below w.heap.size w w' := by
  have HN := Lib.hid (fun w' (h : Reads w' w'.heap.size A (t.Names.map strV)) => spec_l08Names A c t.Names w' h hs hm)
  have hr2 : Reads (w.alloc (.cells #[.int .i64 t.Id, .int .i64 t.Parent, .slice A t.Names.length c, .int .i64 t.Made, .int .i64 t.Ends, .int .i64 t.Limit, .int .i64 t.Uses] 48)) (w.heap.size + 1) A (t.Names.map strV) := hr.keep (by (repeat (first | (with_reducible exact Below.refl _ _) | (with_reducible assumption) | ((with_reducible refine Below.setCell ?_ ?_ _); rotate_left; focus (first | omega | (simp; done) | (simp; omega))) | ((with_reducible refine Below.alloc ?_ ?_ _); rotate_left; focus (first | omega | (simp; done) | (simp; omega))) | (with_reducible refine Below.drew ?_) | (with_reducible refine below_drewN ?_ _) | (refine Below.trans ?_ (Below.mono (by with_reducible assumption) (by (first | omega | (simp; done) | (simp; omega)))))))) (by omega)
  have BK : Blk (w.alloc (.cells #[.int .i64 t.Id, .int .i64 t.Parent, .slice A t.Names.length c, .int .i64 t.Made, .int .i64 t.Ends, .int .i64 t.Limit, .int .i64 t.Uses] 48)) w.heap.size 48 #[.int .i64 t.Id, .int .i64 t.Parent, .slice A t.Names.length c, .int .i64 t.Made, .int .i64 t.Ends, .int .i64 t.Limit, .int .i64 t.Uses] := Blk.new _ _ _
  obtain ⟨D, hD⟩ : ∃ D, D = withinB t.Made 0 1000000000 := ⟨_, rfl⟩
  obtain ⟨N, hN⟩ : ∃ N, N = namesOk t.Names := ⟨_, rfl⟩
  have HT : Hid (tokOk t = (withinB t.Id 1 1000000000 && (withinB t.Parent 0 (t.Id - 1) && (N && (D && (endsOk t && (limitOk t && withinB t.Uses 0 1000))))))) := Lib.hid (by unfold tokOk; rw [hD, hN])
  rw [← hN] at HN
  have hpar : withinB t.Parent 0 (t.Id - 1) = (!decide (t.Parent < 0) && !decide (t.Id ≤ t.Parent)) := by
    rw [Bool.eq_iff_iff, withinB_iff]; simp; omega
  have HPar := Lib.hid hpar
  cases D
  · have HR : Hid (tokOk t = false) := Lib.hid (by rw [HT.out]; simp)
    have HD := Lib.hid hD.symm
    clear hD hN hpar
    go_enter Tryd.func52, Tryd.ntmps52
    go_wp2_with (first
      | (go_at_call 56; first | ((with_reducible refine (spec_l01In_b HD.out _).mono ?_); rintro e w' ⟨rfl, rfl⟩) | (refine (spec_l01In _ _ _ _).mono ?_; rintro e w' ⟨rfl, rfl⟩))
      | (go_at_call 66; refine (HN.out _ (hr2.more BK.lt)).mono ?_; rintro e w2 ⟨rfl, hb2⟩; have BK2 := BK.keep hb2; have hc2 := BK2.cell; have hz2 := hb2.size; try simp at hz2))
    all_goals (go_ret; exact ⟨ret_bool (by rw [HR.out]), by (repeat (first | (with_reducible exact Below.refl _ _) | (with_reducible assumption) | ((with_reducible refine Below.setCell ?_ ?_ _); rotate_left; focus (first | omega | (simp; done) | (simp; omega))) | ((with_reducible refine Below.alloc ?_ ?_ _); rotate_left; focus (first | omega | (simp; done) | (simp; omega))) | (with_reducible refine Below.drew ?_) | (with_reducible refine below_drewN ?_ _) | (refine Below.trans ?_ (Below.mono (by with_reducible assumption) (by (first | omega | (simp; done) | (simp; omega)))))))⟩)
  · obtain ⟨hm1, hm2⟩ := withinB_iff.1 hD.symm
    have HD := Lib.hid hD.symm
    clear hD hN hpar
    cases hE0 : t.Ends == 0
    all_goals cases hL0 : t.Limit == 0
    all_goals
      have hE1 : (t.Ends != 0) = _ := congrArg (!·) hE0
      simp only [Bool.not_false, Bool.not_true] at hE1
      have HE : Hid (endsOk t = _) := Lib.hid (by unfold endsOk; rw [hE0])
      have HL : Hid (limitOk t = _) := Lib.hid (by unfold limitOk; rw [hL0, hE1])
      go_enter Tryd.func52, Tryd.ntmps52
      go_wp2_with (first
        | (go_at_call 56; first | ((with_reducible refine (spec_l01In_b HD.out _).mono ?_); rintro e w' ⟨rfl, rfl⟩) | (refine (spec_l01In _ _ _ _).mono ?_; rintro e w' ⟨rfl, rfl⟩))
        | (go_at_call 66; refine (HN.out _ (hr2.more BK.lt)).mono ?_; rintro e w2 ⟨rfl, hb2⟩; have BK2 := BK.keep hb2; have hc2 := BK2.cell; have hz2 := hb2.size; try simp at hz2))
      all_goals (go_ret; refine ⟨ret_bool ?_, by (repeat (first | (with_reducible exact Below.refl _ _) | (with_reducible assumption) | ((with_reducible refine Below.setCell ?_ ?_ _); rotate_left; focus (first | omega | (simp; done) | (simp; omega))) | ((with_reducible refine Below.alloc ?_ ?_ _); rotate_left; focus (first | omega | (simp; done) | (simp; omega))) | (with_reducible refine Below.drew ?_) | (with_reducible refine below_drewN ?_ _) | (refine Below.trans ?_ (Below.mono (by with_reducible assumption) (by (first | omega | (simp; done) | (simp; omega)))))))⟩; rw [HT.out, HE.out, HL.out, HPar.out]; first | (simp_all; done) | (have hU : withinB t.Uses 0 1000 = false := (by rename_i hh; rcases hh with (h | h) | h <;> first | (exfalso; omega) | simpa using h); simp only [hU, Bool.and_false]))
end Go.Proofs.YtoijmnnjcoogkaaDoor

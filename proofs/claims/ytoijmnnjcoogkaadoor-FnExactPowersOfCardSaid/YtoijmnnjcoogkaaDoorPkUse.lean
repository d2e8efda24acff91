/- Whether a text is in a slice: l08HasText of the reference; slices.Contains, slices.ContainsFunc of makeToken. Renewals as plain data. Uses as plain data. Making a token, as plain data. -/
import Derived.Test.YtoijmnnjcoogkaaDoorStringS2
import Derived.Test.YtoijmnnjcoogkaaDoorHas
import Derived.Test.YtoijmnnjcoogkaaDoorPkPure
import Derived.Test.YtoijmnnjcoogkaaDoorLate
set_option linter.unusedSimpArgs false
set_option linter.unusedVariables false
set_option maxRecDepth 20000
namespace Go.Proofs.YtoijmnnjcoogkaaDoor
open Go.RowKit
def hasT (xs : List ByteArray) (x : ByteArray) : Bool := xs.any (fun y => y.toList == x.toList)
theorem anyT_found {α : Type} {p : α → Bool} {xs : List α} {k : Nat} {y : α} (h : xs[k]? = some y) (he : p y = true) : xs.any p = true := by
  rw [List.any_eq_true]
  exact ⟨y, List.mem_of_getElem? h, he⟩
theorem anyT_none {α : Type} {p : α → Bool} {xs : List α} {k : Nat} (hk : xs.length ≤ k) (h : (xs.take k).any p = false) : xs.any p = false := by
  rw [List.take_of_length_le hk] at h; exact h
theorem toList_comm (x y : ByteArray) : (x.toList == y.toList) = (y.toList == x.toList) := by
  cases h : y.toList == x.toList
  · rw [beq_eq_false_iff_ne] at h ⊢; exact fun e => h e.symm
  · rw [beq_iff_eq] at h ⊢; exact h.symm
set_option maxHeartbeats 800000 in
theorem spec_l08HasText (A : Option Addr) (c : Nat) (xs : List ByteArray) (x : ByteArray) (w : World) (hr : Reads w w.heap.size A (xs.map strV)) (hm : xs.length ≤ 140737488351232) :
    Calls Tryd.prog 19 #[.slice A xs.length c, .string x] w fun e w' => e = .returned (.bool (hasT xs x)) ∧ w = w' := by
  generalize hn : xs.length = n at hm
  have Hn := Lib.hid hn
  clear hn
  go_enter Tryd.func19, Tryd.ntmps19
  go_wp2
  go_loop [5] (fun i => ∃ k : Nat, k ≤ n ∧ i = .int .i64 k ∧ Hid ((xs.take k).any (fun y => y.toList == x.toList) = false)) (fun i => n - (intOf i).toNat)
  case atStart => exact ⟨0, Nat.zero_le _, rfl, Lib.hid rfl⟩
  case round =>
    obtain ⟨k, hk, rfl, hinv⟩ := hrel
    by_cases hlt : k < n
    · have hlx : k < xs.length := by rw [Hn.out]; exact hlt
      obtain ⟨b, off, rfl, hab, hc1⟩ := hr.at_ (by simpa using hlx) (Below.refl _ _) (Nat.le_refl _)
      rw [List.getElem_map] at hc1
      have HG := Lib.hid (List.getElem?_eq_getElem hlx)
      generalize xs[k]'hlx = y at hc1 HG
      simp only [strV] at hc1
      clear hlx
      cases he : y.toList == x.toList
      · have HE := Lib.hid he
        go_wp2
        go_round
        case rel => exact ⟨k + 1, by omega, by go_num, Lib.hid (by rw [any_snoc HG.out, hinv.out, HE.out]; rfl)⟩
        case measure => simp [intOf]; omega
      · have HE := Lib.hid he
        go_wp2
        go_ret
        exact ⟨ret_bool (anyT_found HG.out HE.out).symm, rfl⟩
    · go_wp2
      go_ret
      exact ⟨ret_bool (anyT_none (by rw [Hn.out]; omega) hinv.out).symm, rfl⟩
set_option maxHeartbeats 800000 in
theorem slices_Index_str (A : Option Addr) (c : Nat) (xs : List ByteArray) (x : ByteArray) (w : World) (hr : Reads w w.heap.size A (xs.map strV)) (hm : xs.length ≤ 140737488351232) :
    Calls Tryd.prog 63 #[.slice A xs.length c, .string x] w fun e w' => ∃ z : Int, e = .returned (.int .i64 z) ∧ decide (0 ≤ z) = hasT xs x ∧ w = w' := by
  generalize hn : xs.length = n at hm
  have Hn := Lib.hid hn
  clear hn
  go_enter Tryd.func63, Tryd.ntmps63
  go_wp2
  go_loop [8] (fun i => ∃ k : Nat, k ≤ n ∧ i = .int .i64 k ∧ Hid ((xs.take k).any (fun y => y.toList == x.toList) = false)) (fun i => n - (intOf i).toNat)
  case atStart => exact ⟨0, Nat.zero_le _, rfl, Lib.hid rfl⟩
  case round =>
    obtain ⟨k, hk, rfl, hinv⟩ := hrel
    by_cases hlt : k < n
    · have hlx : k < xs.length := by rw [Hn.out]; exact hlt
      obtain ⟨b, off, rfl, hab, hc1⟩ := hr.at_ (by simpa using hlx) (Below.refl _ _) (Nat.le_refl _)
      rw [List.getElem_map] at hc1
      have HG := Lib.hid (List.getElem?_eq_getElem hlx)
      generalize xs[k]'hlx = y at hc1 HG
      simp only [strV] at hc1
      clear hlx
      cases he : x.toList == y.toList
      · have HE : Hid ((y.toList == x.toList) = false) := Lib.hid (by rw [toList_comm, he])
        go_wp2
        go_round
        case rel => exact ⟨k + 1, by omega, by go_num, Lib.hid (by rw [any_snoc HG.out, hinv.out, HE.out]; rfl)⟩
        case measure => simp [intOf]; omega
      · have HE : Hid ((y.toList == x.toList) = true) := Lib.hid (by rw [toList_comm, he])
        go_wp2
        go_ret
        exact ⟨k, rfl, by unfold hasT; rw [anyT_found HG.out HE.out]; simp, rfl⟩
    · go_wp2
      go_ret
      exact ⟨-1, rfl, by unfold hasT; rw [anyT_none (by rw [Hn.out]; omega) hinv.out]; rfl, rfl⟩
theorem slices_Contains_str (A : Option Addr) (c : Nat) (xs : List ByteArray) (x : ByteArray) (w : World) (hr : Reads w w.heap.size A (xs.map strV)) (hm : xs.length ≤ 140737488351232) :
    Calls Tryd.prog 45 #[.slice A xs.length c, .string x] w fun e w' => e = .returned (.bool (hasT xs x)) ∧ w = w' := by
  have HC := Lib.hid (slices_Index_str A c xs x w hr hm)
  generalize xs.length = n at *
  clear hr hm
  go_enter Tryd.func45, Tryd.ntmps45
  go_wp2_with fail
  refine HC.out.mono ?_
  rintro e w' ⟨z, rfl, hz, rfl⟩
  have HZ := Lib.hid hz
  clear hz
  go_wp2
  go_ret
  exact ⟨ret_bool HZ.out, rfl⟩
/-- Whether a text of the first list is not in the second. -/
def missT (xs ps : List ByteArray) : Bool := xs.any (fun y => !hasT ps y)
end Go.Proofs.YtoijmnnjcoogkaaDoor
namespace Go.Proofs.YtoijmnnjcoogkaaDoor
open Go.RowKit
def tokN (ts : List Token) (id : Int) : Token := (ts[(idxT ts id).toNat]?).getD noToken
theorem tokN_at {ts : List Token} {id : Int} {i : Nat} {t : Token} (h : idxT ts id = i) (ht : ts[i]? = some t) : tokN ts id = t := by unfold tokN; rw [h, Int.toNat_natCast, ht]; rfl
def endsNew (t : Token) (now by_ : Int) : Int := match t.Limit != 0 && decide (t.Limit < now + by_) with | true => t.Limit | false => now + by_
def withEnds (t : Token) (e : Int) : Token := ⟨t.Id, t.Parent, t.Names, t.Made, e, t.Limit, t.Uses⟩
def renewC (ts : List Token) (id now by_ : Int) : Int := match decide (idxT ts id < 0) with
  | true => 2
  | false => match lateB (tokN ts id) now with
    | true => 3
    | false => match decide (1000000000 < endsNew (tokN ts id) now by_) with
      | true => 4
      | false => 0
def renewT (ts : List Token) (id now by_ : Int) : List Token := match renewC ts id now by_ == 0 with
  | true => ts.set (idxT ts id).toNat (withEnds (tokN ts id) (endsNew (tokN ts id) now by_))
  | false => ts
def renewGood (ts : List Token) (now by_ : Int) : Bool := forestOk ts && (withinB now 0 1000000000 && withinB by_ 1 1000000000)
def RenewC (ts : List Token) (id now by_ : Int) : Int := match renewGood ts now by_ with | true => renewC ts id now by_ | false => 1
def RenewT (ts : List Token) (id now by_ : Int) : List Token := match renewGood ts now by_ with | true => renewT ts id now by_ | false => ts
theorem szList_set_le {α : Type} (R : Rep α) : ∀ (xs : List α) (i : Nat) (x : α) (n : Nat), R.sz x ≤ n → szList R (xs.set i x) ≤ szList R xs + n
  | [], i, x, n, _ => by simp
  | y :: ys, 0, x, n, h => by simp only [List.set_cons_zero, szList, List.map_cons, List.sum_cons, List.length_cons]; omega
  | y :: ys, i + 1, x, n, h => by
    have := szList_set_le R ys i x n h
    simp only [List.set_cons_succ, szList, List.map_cons, List.sum_cons, List.length_cons] at this ⊢
    omega
theorem tokN_sz (ts : List Token) (id : Int) : TokenR.sz (tokN ts id) ≤ szList TokenR ts := by
  unfold tokN
  cases ht : ts[(idxT ts id).toNat]? with
  | none => simp [noToken, sz_Token, szList]
  | some t => exact szList_one ht
theorem RenewT_sz (ts : List Token) (id now by_ : Int) : szList TokenR (RenewT ts id now by_) ≤ 2 * szList TokenR ts := by
  unfold RenewT
  cases renewGood ts now by_
  · simp only; omega
  · simp only
    unfold renewT
    cases renewC ts id now by_ == 0
    · simp only; omega
    · simp only
      have h1 := tokN_sz ts id
      rw [sz_Token] at h1
      have := szList_set_le TokenR ts (idxT ts id).toNat (withEnds (tokN ts id) (endsNew (tokN ts id) now by_)) (szList TokenR ts) (by rw [sz_Token]; exact h1)
      omega
section
variable {ts : List Token} {id now by_ : Int} {i : Nat} {t : Token}
theorem renew_none (h : idxT ts id < 0) : renewC ts id now by_ = 2 ∧ renewT ts id now by_ = ts := by
  have h1 : renewC ts id now by_ = 2 := by unfold renewC; rw [decide_eq_true h]
  exact ⟨h1, by unfold renewT; rw [h1]; rfl⟩
theorem renew_late (h : idxT ts id = i) (ht : ts[i]? = some t) (hl : lateB t now = true) : renewC ts id now by_ = 3 ∧ renewT ts id now by_ = ts := by
  have h1 : renewC ts id now by_ = 3 := by unfold renewC; rw [decide_eq_false (by omega : ¬ idxT ts id < 0), tokN_at h ht, hl]
  exact ⟨h1, by unfold renewT; rw [h1]; rfl⟩
theorem renew_more (h : idxT ts id = i) (ht : ts[i]? = some t) (hl : lateB t now = false) (he : 1000000000 < endsNew t now by_) : renewC ts id now by_ = 4 ∧ renewT ts id now by_ = ts := by
  have h1 : renewC ts id now by_ = 4 := by unfold renewC; rw [decide_eq_false (by omega : ¬ idxT ts id < 0), tokN_at h ht, hl, decide_eq_true he]
  exact ⟨h1, by unfold renewT; rw [h1]; rfl⟩
theorem renew_done (h : idxT ts id = i) (ht : ts[i]? = some t) (hl : lateB t now = false) (he : ¬ 1000000000 < endsNew t now by_) : renewC ts id now by_ = 0 ∧ renewT ts id now by_ = ts.set i (withEnds t (endsNew t now by_)) := by
  have h1 : renewC ts id now by_ = 0 := by unfold renewC; rw [decide_eq_false (by omega : ¬ idxT ts id < 0), tokN_at h ht, hl, decide_eq_false he]
  exact ⟨h1, by unfold renewT; rw [h1, h, tokN_at h ht, Int.toNat_natCast]; rfl⟩
theorem Renew_bad (h : renewGood ts now by_ = false) : RenewC ts id now by_ = 1 ∧ RenewT ts id now by_ = ts := by unfold RenewC RenewT; rw [h]; exact ⟨rfl, rfl⟩
theorem Renew_good (h : renewGood ts now by_ = true) : RenewC ts id now by_ = renewC ts id now by_ ∧ RenewT ts id now by_ = renewT ts id now by_ := by unfold RenewC RenewT; rw [h]; exact ⟨rfl, rfl⟩
end
end Go.Proofs.YtoijmnnjcoogkaaDoor
namespace Go.Proofs.YtoijmnnjcoogkaaDoor
open Go.RowKit
theorem forest_uses {ts : List Token} {i : Nat} {t : Token} (hf : forestOk ts = true) (ht : ts[i]? = some t) : 0 ≤ t.Uses ∧ t.Uses ≤ 1000 := by
  have h := okAll_get (forestOk_all hf) (List.getElem?_eq_some_iff.1 ht).1 ht
  simp only [inForest, Bool.and_eq_true] at h
  have h2 := h.1
  unfold tokOk at h2
  simp only [Bool.and_eq_true] at h2
  exact withinB_iff.1 h2.2.2.2.2.2.2
def withUses (t : Token) (u : Int) : Token := ⟨t.Id, t.Parent, t.Names, t.Made, t.Ends, t.Limit, u⟩
def useC (ts : List Token) (id now : Int) : Int := match decide (idxT ts id < 0) with
  | true => 2
  | false => match lateB (tokN ts id) now with
    | true => 3
    | false => 0
def usedT (ts : List Token) (id : Int) : List Token := match (tokN ts id).Uses == 1 with
  | true => lessT ts (belowS ts id)
  | false => match decide (1 < (tokN ts id).Uses) with
    | true => ts.set (idxT ts id).toNat (withUses (tokN ts id) ((tokN ts id).Uses - 1))
    | false => ts
def useT (ts : List Token) (id now : Int) : List Token := match useC ts id now == 0 with
  | true => usedT ts id
  | false => ts
def useGood (ts : List Token) (now : Int) : Bool := forestOk ts && withinB now 0 1000000000
def UseC (ts : List Token) (id now : Int) : Int := match useGood ts now with | true => useC ts id now | false => 1
def UseT (ts : List Token) (id now : Int) : List Token := match useGood ts now with | true => useT ts id now | false => ts
theorem UseT_sz (ts : List Token) (id now : Int) : szList TokenR (UseT ts id now) ≤ 2 * szList TokenR ts := by
  unfold UseT
  cases useGood ts now
  · simp only; omega
  · simp only
    unfold useT
    cases useC ts id now == 0
    · simp only; omega
    · simp only
      unfold usedT
      cases (tokN ts id).Uses == 1
      · simp only
        cases decide (1 < (tokN ts id).Uses)
        · simp only; omega
        · simp only
          have h1 := tokN_sz ts id
          rw [sz_Token] at h1
          have := szList_set_le TokenR ts (idxT ts id).toNat (withUses (tokN ts id) ((tokN ts id).Uses - 1)) (szList TokenR ts) (by rw [sz_Token]; exact h1)
          omega
      · simp only
        have := lessT_sz ts (belowS ts id)
        omega
section
variable {ts : List Token} {id now : Int} {i : Nat} {t : Token}
theorem use_none (h : idxT ts id < 0) : useC ts id now = 2 ∧ useT ts id now = ts := by
  have h1 : useC ts id now = 2 := by unfold useC; rw [decide_eq_true h]
  exact ⟨h1, by unfold useT; rw [h1]; rfl⟩
theorem use_late (h : idxT ts id = i) (ht : ts[i]? = some t) (hl : lateB t now = true) : useC ts id now = 3 ∧ useT ts id now = ts := by
  have h1 : useC ts id now = 3 := by unfold useC; rw [decide_eq_false (by omega : ¬ idxT ts id < 0), tokN_at h ht, hl]
  exact ⟨h1, by unfold useT; rw [h1]; rfl⟩
theorem use_done (h : idxT ts id = i) (ht : ts[i]? = some t) (hl : lateB t now = false) : useC ts id now = 0 ∧ useT ts id now = usedT ts id := by
  have h1 : useC ts id now = 0 := by unfold useC; rw [decide_eq_false (by omega : ¬ idxT ts id < 0), tokN_at h ht, hl]
  exact ⟨h1, by unfold useT; rw [h1]; rfl⟩
theorem use_last (h : idxT ts id = i) (ht : ts[i]? = some t) (hl : lateB t now = false) (hu : (t.Uses == 1) = true) : useC ts id now = 0 ∧ useT ts id now = lessT ts (belowS ts id) := by
  obtain ⟨h1, h2⟩ := use_done h ht hl
  exact ⟨h1, by rw [h2]; unfold usedT; rw [tokN_at h ht, hu]⟩
theorem use_more (h : idxT ts id = i) (ht : ts[i]? = some t) (hl : lateB t now = false) (hu : (t.Uses == 1) = false) (hm : 1 < t.Uses) : useC ts id now = 0 ∧ useT ts id now = ts.set i (withUses t (t.Uses - 1)) := by
  obtain ⟨h1, h2⟩ := use_done h ht hl
  exact ⟨h1, by rw [h2]; unfold usedT; rw [tokN_at h ht, hu, decide_eq_true hm, h, Int.toNat_natCast]⟩
theorem use_keep (h : idxT ts id = i) (ht : ts[i]? = some t) (hl : lateB t now = false) (hu : (t.Uses == 1) = false) (hm : ¬ 1 < t.Uses) : useC ts id now = 0 ∧ useT ts id now = ts := by
  obtain ⟨h1, h2⟩ := use_done h ht hl
  exact ⟨h1, by rw [h2]; unfold usedT; rw [tokN_at h ht, hu, decide_eq_false hm]⟩
theorem Use_bad (h : useGood ts now = false) : UseC ts id now = 1 ∧ UseT ts id now = ts := by unfold UseC UseT; rw [h]; exact ⟨rfl, rfl⟩
theorem Use_good (h : useGood ts now = true) : UseC ts id now = useC ts id now ∧ UseT ts id now = useT ts id now := by unfold UseC UseT; rw [h]; exact ⟨rfl, rfl⟩
end
end Go.Proofs.YtoijmnnjcoogkaaDoor
namespace Go.Proofs.YtoijmnnjcoogkaaDoor
open Go.RowKit
def lastBig (ts : List Token) (t : Token) : Bool := match ts[ts.length - 1]? with
  | some s => decide (t.Id ≤ s.Id)
  | none => false
def fullC (ts : List Token) : Int := match ts.length == 120 with | true => 5 | false => 0
def makeC (ts : List Token) (t : Token) : Int := match tokOk t && !lastBig ts t with
  | false => 1
  | true => match t.Parent == 0 with
    | true => fullC ts
    | false => match decide (idxT ts t.Parent < 0) with
      | true => 2
      | false => match overB (tokN ts t.Parent).Ends t.Made with
        | true => 3
        | false => match missT t.Names (tokN ts t.Parent).Names with
          | true => 4
          | false => fullC ts
def makeT (ts : List Token) (t : Token) : List Token := match makeC ts t == 0 with | true => ts ++ [t] | false => ts
def MakeC (ts : List Token) (t : Token) : Int := match forestOk ts with | true => makeC ts t | false => 1
def MakeT (ts : List Token) (t : Token) : List Token := match forestOk ts with | true => makeT ts t | false => ts
theorem Make_bad {ts : List Token} {t : Token} (h : forestOk ts = false) : MakeC ts t = 1 ∧ MakeT ts t = ts := by unfold MakeC MakeT; rw [h]; exact ⟨rfl, rfl⟩
theorem Make_good {ts : List Token} {t : Token} (h : forestOk ts = true) : MakeC ts t = makeC ts t ∧ MakeT ts t = makeT ts t := by unfold MakeC MakeT; rw [h]; exact ⟨rfl, rfl⟩
theorem makeT_not {ts : List Token} {t : Token} {c : Int} (h : makeC ts t = c) (hc : (c == 0) = false) : makeT ts t = ts := by unfold makeT; rw [h, hc]
theorem makeT_yes {ts : List Token} {t : Token} (h : makeC ts t = 0) : makeT ts t = ts ++ [t] := by unfold makeT; rw [h]; rfl
section
variable {ts : List Token} {t s : Token} {i : Nat}
theorem make_bad1 (h : tokOk t = false) : makeC ts t = 1 ∧ makeT ts t = ts := by
  have h1 : makeC ts t = 1 := by unfold makeC; rw [h]; rfl
  exact ⟨h1, makeT_not h1 rfl⟩
theorem make_bad2 (h : lastBig ts t = true) : makeC ts t = 1 ∧ makeT ts t = ts := by
  have h1 : makeC ts t = 1 := by unfold makeC; rw [h]; cases tokOk t <;> rfl
  exact ⟨h1, makeT_not h1 rfl⟩
theorem make_top (h : tokOk t = true) (hl : lastBig ts t = false) (hp : (t.Parent == 0) = true) : makeC ts t = fullC ts := by unfold makeC; rw [h, hl, hp]; rfl
theorem make_none (h : tokOk t = true) (hl : lastBig ts t = false) (hp : (t.Parent == 0) = false) (hx : idxT ts t.Parent < 0) : makeC ts t = 2 ∧ makeT ts t = ts := by
  have h1 : makeC ts t = 2 := by unfold makeC; rw [h, hl, hp, decide_eq_true hx]; rfl
  exact ⟨h1, makeT_not h1 rfl⟩
theorem make_over (h : tokOk t = true) (hl : lastBig ts t = false) (hp : (t.Parent == 0) = false) (e1 : idxT ts t.Parent = i) (e2 : ts[i]? = some s) (ho : overB s.Ends t.Made = true) : makeC ts t = 3 ∧ makeT ts t = ts := by
  have h1 : makeC ts t = 3 := by unfold makeC; rw [h, hl, hp, decide_eq_false (by omega : ¬ idxT ts t.Parent < 0), tokN_at e1 e2, ho]; rfl
  exact ⟨h1, makeT_not h1 rfl⟩
theorem make_miss (h : tokOk t = true) (hl : lastBig ts t = false) (hp : (t.Parent == 0) = false) (e1 : idxT ts t.Parent = i) (e2 : ts[i]? = some s) (ho : overB s.Ends t.Made = false) (hm : missT t.Names s.Names = true) : makeC ts t = 4 ∧ makeT ts t = ts := by
  have h1 : makeC ts t = 4 := by unfold makeC; rw [h, hl, hp, decide_eq_false (by omega : ¬ idxT ts t.Parent < 0), tokN_at e1 e2, ho, hm]; rfl
  exact ⟨h1, makeT_not h1 rfl⟩
theorem make_fits (h : tokOk t = true) (hl : lastBig ts t = false) (hp : (t.Parent == 0) = false) (e1 : idxT ts t.Parent = i) (e2 : ts[i]? = some s) (ho : overB s.Ends t.Made = false) (hm : missT t.Names s.Names = false) : makeC ts t = fullC ts := by
  unfold makeC; rw [h, hl, hp, decide_eq_false (by omega : ¬ idxT ts t.Parent < 0), tokN_at e1 e2, ho, hm]; rfl
theorem make_full (h : makeC ts t = fullC ts) (hf : (ts.length == 120) = true) : makeC ts t = 5 ∧ makeT ts t = ts := by
  have h1 : makeC ts t = 5 := by rw [h]; unfold fullC; rw [hf]
  exact ⟨h1, makeT_not h1 rfl⟩
theorem make_done (h : makeC ts t = fullC ts) (hf : (ts.length == 120) = false) : makeC ts t = 0 ∧ makeT ts t = ts ++ [t] := by
  have h1 : makeC ts t = 0 := by rw [h]; unfold fullC; rw [hf]
  exact ⟨h1, makeT_yes h1⟩
theorem lastBig_zero (h : ts.length = 0) : lastBig ts t = false := by
  have : ts = [] := List.length_eq_zero_iff.1 h
  subst this; rfl
theorem lastBig_at (h : ts[ts.length - 1]? = some s) : lastBig ts t = decide (t.Id ≤ s.Id) := by unfold lastBig; rw [h]
theorem makeC_tok (h : makeC ts t = 0) : tokOk t = true := by
  cases hk : tokOk t
  · rw [(make_bad1 hk).1] at h; cases h
  · rfl
end
theorem strSum_le {n : Nat} : ∀ xs : List ByteArray, (∀ s ∈ xs, s.size ≤ n) → strSum xs ≤ n * xs.length
  | [], _ => by simp [strSum]
  | x :: xs, h => by
    have h1 := h x (by simp)
    have h2 := strSum_le xs (fun s hs => h s (by simp [hs]))
    have h3 : strSum (x :: xs) = x.size + strSum xs := by simp [strSum]
    rw [h3, List.length_cons, Nat.mul_succ]; omega
theorem tokOk_sz {t : Token} (h : tokOk t = true) : TokenR.sz t ≤ 78 := by
  unfold tokOk at h
  simp only [Bool.and_eq_true] at h
  have hn := h.2.2.1
  unfold namesOk at hn
  simp only [Bool.and_eq_true, decide_eq_true_eq] at hn
  obtain ⟨h1, h2⟩ := hn
  have h3 := strSum_le (n := 12) t.Names (fun s hs => by
    obtain ⟨j, hj, e⟩ := List.mem_iff_getElem.1 hs
    have h4 := okAll_get h2 hj (List.getElem?_eq_getElem hj)
    rw [e] at h4
    unfold nameOk at h4
    simp only [Bool.and_eq_true] at h4
    have h5 := (withinB_iff.1 h4.1).2
    omega)
  rw [sz_Token, sz_StringS]
  omega
theorem MakeT_sz (ts : List Token) (t : Token) : szList TokenR (MakeT ts t) ≤ szList TokenR ts + 79 := by
  cases hf : forestOk ts
  · rw [(Make_bad hf).2]; omega
  · rw [(Make_good hf).2]
    cases hc : makeC ts t == 0
    · rw [show makeT ts t = ts by unfold makeT; rw [hc]]; omega
    · have h0 : makeC ts t = 0 := by simpa using hc
      rw [makeT_yes h0]
      have h1 := tokOk_sz (makeC_tok h0)
      unfold szList
      simp only [List.length_append, List.map_append, List.sum_append, List.length_cons, List.length_nil, List.map_cons, List.map_nil, List.sum_cons, List.sum_nil]
      omega
end Go.Proofs.YtoijmnnjcoogkaaDoor

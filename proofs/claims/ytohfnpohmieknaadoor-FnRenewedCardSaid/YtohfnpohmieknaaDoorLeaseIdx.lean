/- leaseIndex of the program; the lease with an Id. -/
import Derived.Test.YtohfnpohmieknaaDoorBookL
set_option linter.unusedSimpArgs false
set_option linter.unusedVariables false
set_option maxRecDepth 20000
namespace Go.Proofs.YtohfnpohmieknaaDoor
open Go.RowKit
def hasLease (id : Int) (l : Lease) : Bool := l.Id == id
def idxL (ls : List Lease) (id : Int) : Int := idxB (hasLease id) ls
def noLease : Lease := ⟨0, 0, ⟨#[]⟩, 0, 0, 0⟩
theorem idxL_cases (ls : List Lease) (id : Int) : (idxL ls id = -1 ∧ ∀ j (hj : j < ls.length), hasLease id ls[j] = false) ∨ ∃ i l, idxL ls id = ((i : Nat) : Int) ∧ ls[i]? = some l := by
  unfold idxL idxB
  cases h : ls.findIdx? (hasLease id) with
  | none => exact .inl ⟨rfl, fun j hj => List.findIdx?_eq_none_iff.1 h _ (List.getElem_mem hj)⟩
  | some i =>
    obtain ⟨h1, _⟩ := List.findIdx?_eq_some_iff_getElem.1 h
    exact .inr ⟨i, ls[i], rfl, List.getElem?_eq_getElem h1⟩
def findB (ls : List Lease) (id : Int) : Bool := bookOk ls && decide (0 ≤ idxL ls id)
def findR (ls : List Lease) (id : Int) : Lease := match findB ls id with | true => (ls[(idxL ls id).toNat]?).getD noLease | false => noLease
theorem findB_bad {ls : List Lease} {id : Int} (h : bookOk ls = false) : findB ls id = false := by unfold findB; rw [h]; rfl
theorem findB_none {ls : List Lease} {id : Int} (h : idxL ls id = -1) : findB ls id = false := by unfold findB; rw [h]; simp
theorem findB_at {ls : List Lease} {id : Int} {i : Nat} (hf : bookOk ls = true) (h : idxL ls id = i) : findB ls id = true := by unfold findB; rw [hf, h]; simp
theorem findR_no {ls : List Lease} {id : Int} (h : findB ls id = false) : findR ls id = noLease := by unfold findR; rw [h]
theorem findR_at {ls : List Lease} {id : Int} {i : Nat} {l : Lease} (hf : bookOk ls = true) (h : idxL ls id = i) (hl : ls[i]? = some l) : findR ls id = l := by
  unfold findR
  rw [findB_at hf h, h, Int.toNat_natCast, hl]
  rfl
theorem findR_sz (ls : List Lease) (id : Int) : LeaseR.sz (findR ls id) ≤ szList LeaseR ls := by
  unfold findR
  cases h : findB ls id
  · exact Nat.zero_le _
  · cases hl : ls[(idxL ls id).toNat]? with
    | none => exact Nat.zero_le _
    | some l => exact szList_one hl
theorem own_noLease (w : World) (S : Nat → Prop) : LeaseR.Own w S [.int .i64 0, .int .i64 0, .string ⟨#[]⟩, .int .i64 0, .int .i64 0, .int .i64 0] noLease := of_own_Lease (x := noLease) (by decide)
theorem impl_leaseIndex_1 (l : Lease) (id : Int) (p : Addr) (w : World) (hc : w.cell? p = some (.int .i64 id)) : Calls Tryd.prog 33 #[.agg #[.int .i64 l.Id, .int .i64 l.Token, .string l.Path, .int .i64 l.Made, .int .i64 l.Ends, .int .i64 l.Limit], .pointer (some p)] w fun e w' => e = .returned (.bool (hasLease id l)) ∧ Below w.heap.size w w' := by
  have hlt := World.block_lt_of_cell? w p hc
  have hc' : (w.alloc (.cells #[.int .i64 l.Id, .int .i64 l.Token, .string l.Path, .int .i64 l.Made, .int .i64 l.Ends, .int .i64 l.Limit] 32)).cell? p = some (.int .i64 id) := by rw [World.cell?_alloc_lt _ _ _ hlt]; exact hc
  go_enter Tryd.func33, Tryd.ntmps33
  go_wp2
  go_ret
  exact ⟨rfl, by (repeat (first | (with_reducible exact Below.refl _ _) | (with_reducible assumption) | ((with_reducible refine Below.setCell ?_ ?_ _); rotate_left; focus (first | omega | (simp; done) | (simp; omega))) | ((with_reducible refine Below.alloc ?_ ?_ _); rotate_left; focus (first | omega | (simp; done) | (simp; omega))) | (with_reducible refine Below.drew ?_) | (with_reducible refine below_drewN ?_ _) | (refine Below.trans ?_ (Below.mono (by with_reducible assumption) (by (first | omega | (simp; done) | (simp; omega)))))))⟩
set_option maxHeartbeats 1600000 in
theorem slices_IndexFunc_Lease (A : Option Addr) (c : Nat) (ts : List Lease) (id : Int) (p : Addr) (w : World) (hr : SlRd LeaseR w w.heap.size (.slice A ts.length c) ts) (hc : w.cell? p = some (.int .i64 id)) (hml : ts.length ≤ 1048576) :
    Calls Tryd.prog 32 #[.slice A ts.length c, .func (.func 33) #[] #[.pointer (some p)]] w fun e w' => e = .returned (.int .i64 (idxL ts id)) ∧ Below w.heap.size w w' := by
  have hlp := World.block_lt_of_cell? w p hc
  generalize hn : ts.length = n at *
  have Hn := Lib.hid hn
  clear hn
  go_enter Tryd.func32, Tryd.ntmps32
  go_wp2
  go_loopw [8] (fun i wr => ∃ k : Nat, k ≤ n ∧ i = .int .i64 k ∧ Below w.heap.size w wr ∧ Hid (∀ j (hj : j < ts.length), j < k → hasLease id ts[j] = false)) (fun i _ => n - (intOf i).toNat)
  case atStart => exact ⟨0, Nat.zero_le _, rfl, Below.refl _ _, fun j _ h => absurd h (by omega)⟩
  case round =>
    obtain ⟨k, hk, rfl, hb, hinv⟩ := hrel
    by_cases hlt : k < n
    · have hlx : k < ts.length := by rw [Hn.out]; exact hlt
      have HG := Lib.hid (List.getElem?_eq_getElem hlx)
      generalize ts[k]'hlx = l at HG
      obtain ⟨b, off, rfl, hab, hps, hq0, hq1, hq2, hq3, hq4, hq5⟩ := lease_elem (hr.below hb (Nat.le_refl _)) HG.out
      have hcp : wr.cell? p = some (.int .i64 id) := (hb.cell hlp).trans hc
      go_wp2_with fail
      refine (impl_leaseIndex_1 l id p _ hcp).mono ?_
      rintro e w2 ⟨rfl, hb2⟩
      have hzr := hb.size
      go_wp2
      · have hT : hasLease id l = true := by assumption
        go_ret
        refine ⟨ret_int ?_, by (repeat (first | (with_reducible exact Below.refl _ _) | (with_reducible assumption) | ((with_reducible refine Below.setCell ?_ ?_ _); rotate_left; focus (first | omega | (simp; done) | (simp; omega))) | ((with_reducible refine Below.alloc ?_ ?_ _); rotate_left; focus (first | omega | (simp; done) | (simp; omega))) | (with_reducible refine Below.drew ?_) | (with_reducible refine below_drewN ?_ _) | (refine Below.trans ?_ (Below.mono (by with_reducible assumption) (by (first | omega | (simp; done) | (simp; omega)))))))⟩
        have e1 := HG.out
        obtain ⟨h1, h2⟩ := List.getElem?_eq_some_iff.1 e1
        exact (idxB_found h1 (fun j hj => hinv.out j (by omega) hj) (by rw [h2]; exact hT)).symm
      · have hT : hasLease id l = false := by assumption
        go_roundw
        case rel =>
          refine ⟨k + 1, by omega, by go_num, by (repeat (first | (with_reducible exact Below.refl _ _) | (with_reducible assumption) | ((with_reducible refine Below.setCell ?_ ?_ _); rotate_left; focus (first | omega | (simp; done) | (simp; omega))) | ((with_reducible refine Below.alloc ?_ ?_ _); rotate_left; focus (first | omega | (simp; done) | (simp; omega))) | (with_reducible refine Below.drew ?_) | (with_reducible refine below_drewN ?_ _) | (refine Below.trans ?_ (Below.mono (by with_reducible assumption) (by (first | omega | (simp; done) | (simp; omega))))))), fun j hj1 hj2 => ?_⟩
          rcases Nat.lt_or_ge j k with h | h
          · exact hinv.out j hj1 h
          · obtain rfl : j = k := by omega
            have e1 := HG.out
            rw [List.getElem?_eq_getElem hj1] at e1
            rw [Option.some.inj e1]
            exact hT
        case measure => simp [intOf]; omega
    · obtain rfl : k = n := by omega
      go_wp2
      go_ret
      exact ⟨ret_int (idxB_none (fun j hj => hinv.out j hj (by rw [← Hn.out]; exact hj))).symm, hb⟩
set_option maxHeartbeats 800000 in
theorem impl_leaseIndexL (cs : List Value) (f : Book) (id : Int) (w : World) (h : BookR.Rd w w.heap.size cs f) (hm : BookR.sz f ≤ 1048576) :
    Calls Tryd.prog 26 #[.agg cs.toArray, .int .i64 id] w fun e w' => e = .returned (.int .i64 (idxL f.Leases id)) ∧ Below w.heap.size w w' := by
  obtain ⟨v0, rfl, hr⟩ := rd_Book h
  obtain ⟨A, c, rfl⟩ := hr.form
  have hml := book_len hm
  go_enter Tryd.func26, Tryd.ntmps26
  go_wp2_with fail
  refine (slices_IndexFunc_Lease _ _ _ id _ _ (hr.keep (by (repeat (first | (with_reducible exact Below.refl _ _) | (with_reducible assumption) | ((with_reducible refine Below.setCell ?_ ?_ _); rotate_left; focus (first | omega | (simp; done) | (simp; omega))) | ((with_reducible refine Below.alloc ?_ ?_ _); rotate_left; focus (first | omega | (simp; done) | (simp; omega))) | (with_reducible refine Below.drew ?_) | (with_reducible refine below_drewN ?_ _) | (refine Below.trans ?_ (Below.mono (by with_reducible assumption) (by (first | omega | (simp; done) | (simp; omega)))))))) (by simp; omega)) (by simp) hml).mono ?_
  rintro e w2 ⟨rfl, hb2⟩
  go_wp2
  go_ret
  exact ⟨rfl, by (repeat (first | (with_reducible exact Below.refl _ _) | (with_reducible assumption) | ((with_reducible refine Below.setCell ?_ ?_ _); rotate_left; focus (first | omega | (simp; done) | (simp; omega))) | ((with_reducible refine Below.alloc ?_ ?_ _); rotate_left; focus (first | omega | (simp; done) | (simp; omega))) | (with_reducible refine Below.drew ?_) | (with_reducible refine below_drewN ?_ _) | (refine Below.trans ?_ (Below.mono (by with_reducible assumption) (by (first | omega | (simp; done) | (simp; omega)))))))⟩
end Go.Proofs.YtohfnpohmieknaaDoor

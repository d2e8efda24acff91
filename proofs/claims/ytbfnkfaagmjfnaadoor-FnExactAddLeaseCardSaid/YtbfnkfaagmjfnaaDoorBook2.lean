/- Contracts of the helpers on Book (printed by wip/gen/gen2.py). -/
import Derived.Test.YtbfnkfaagmjfnaaDoorLeaseS2
set_option linter.unusedSimpArgs false
set_option linter.unusedVariables false
set_option maxRecDepth 20000
namespace Go.Proofs.YtbfnkfaagmjfnaaDoor
open Go.RowKit
structure Book where
  Leases : List Lease
  deriving DecidableEq
def BookR : Rep Book := (LeaseR.sl 26).as (fun x => x.Leases) (fun p => ⟨p⟩)
theorem rd_Book {w : World} {B : Nat} {cs : List Value} {x : Book} (h : BookR.Rd w B cs x) : ∃ v0, cs = [v0] ∧ SlRd LeaseR w B v0 x.Leases := by
  obtain ⟨v0, rfl, h0⟩ := h
  exact ⟨v0, rfl, h0⟩
theorem of_rd_Book {w : World} {B : Nat} {x : Book} {v0 : Value} (h0 : SlRd LeaseR w B v0 x.Leases) : BookR.Rd w B [v0] x := ⟨_, rfl, h0⟩
theorem own_Book {w : World} {S : Nat → Prop} {cs : List Value} {x : Book} (h : BookR.Own w S cs x) : ∃ v0, ∃ S0 : Nat → Prop, cs = [v0] ∧ SlOwn LeaseR 26 w S0 v0 x.Leases ∧ (∀ g, S0 g → S g) := by
  obtain ⟨v0, rfl, h0⟩ := h
  exact ⟨v0, S, rfl, h0, (fun g hg => hg)⟩
theorem of_own_Book {w : World} {S : Nat → Prop} {x : Book} {v0 : Value} {S0 : Nat → Prop} (h0 : SlOwn LeaseR 26 w S0 v0 x.Leases) (s0 : ∀ g, S0 g → S g) : BookR.Own w S [v0] x := ⟨_, rfl, h0.wide s0⟩
theorem sz_Book (x : Book) : BookR.sz x = szList LeaseR x.Leases := by simp [BookR, Rep.as, Rep.pair, Rep.sl, intR, Rep.flat]
set_option maxHeartbeats 800000 in
theorem sz2_Book (cs : List Value) (x : Book) (left : Int) (w : World) (h : BookR.Rd w w.heap.size cs x) (h1 : -1 ≤ left) (h2 : left ≤ 1048576) :
    Calls Tryd.prog 13 #[.agg cs.toArray, .int .i64 left] w fun e w' => e = .returned (.int .i64 (leftOf left (BookR.sz x))) ∧ Below w.heap.size w w' := by
  obtain ⟨v0, rfl, q0⟩ := rd_Book h
  rw [sz_Book]
  obtain ⟨A0, c0, rfl⟩ := q0.form
  go_enter Tryd.func13, Tryd.ntmps13
  go_wp2_with fail
  refine (sz2_LeaseS _ _ _ _ (q0.keep (by (repeat (first | (with_reducible exact Below.refl _ _) | (with_reducible assumption) | ((with_reducible refine Below.setCell ?_ ?_ _); rotate_left; focus (first | omega | (simp; done) | (simp; omega))) | ((with_reducible refine Below.alloc ?_ ?_ _); rotate_left; focus (first | omega | (simp; done) | (simp; omega))) | (with_reducible refine Below.drew ?_) | (with_reducible refine below_drewN ?_ _) | (refine Below.trans ?_ (Below.mono (by with_reducible assumption) (by (first | omega | (simp; done) | (simp; omega)))))))) (by first | omega | (simp; done) | (simp; omega))) h1 h2).mono ?_
  rintro e w1 ⟨rfl, hb1⟩
  have hz1 := hb1.size; try simp at hz1
  obtain ⟨hc10, hf10⟩ := box hb1 (w.heap.size) (by first | omega | (simp; done) | (simp; omega))
  by_cases n0 : leftOf left (szList LeaseR x.Leases) < 0
  · go_wp2
    go_ret
    exact ⟨ret_int (by rw [← Nat.add_zero (szList LeaseR x.Leases)]; exact (leftOf_neg n0).symm), by (repeat (first | (with_reducible exact Below.refl _ _) | (with_reducible assumption) | ((with_reducible refine Below.setCell ?_ ?_ _); rotate_left; focus (first | omega | (simp; done) | (simp; omega))) | ((with_reducible refine Below.alloc ?_ ?_ _); rotate_left; focus (first | omega | (simp; done) | (simp; omega))) | (with_reducible refine Below.drew ?_) | (with_reducible refine below_drewN ?_ _) | (refine Below.trans ?_ (Below.mono (by with_reducible assumption) (by (first | omega | (simp; done) | (simp; omega)))))))⟩
  have g0 := Int.not_lt.1 n0
  go_wp2
  go_ret
  exact ⟨rfl, by (repeat (first | (with_reducible exact Below.refl _ _) | (with_reducible assumption) | ((with_reducible refine Below.setCell ?_ ?_ _); rotate_left; focus (first | omega | (simp; done) | (simp; omega))) | ((with_reducible refine Below.alloc ?_ ?_ _); rotate_left; focus (first | omega | (simp; done) | (simp; omega))) | (with_reducible refine Below.drew ?_) | (with_reducible refine below_drewN ?_ _) | (refine Below.trans ?_ (Below.mono (by with_reducible assumption) (by (first | omega | (simp; done) | (simp; omega)))))))⟩
set_option maxHeartbeats 800000 in
theorem to2_Book (cs : List Value) (x : Book) (w : World) (h : BookR.Rd w w.heap.size cs x) (hm : BookR.sz x ≤ 1048576) :
    Calls Tryd.prog 15 #[.agg cs.toArray] w fun e w' => ∃ cs', e = .returned (.agg cs'.toArray) ∧ BookR.Own w' (InR w.heap.size w'.heap.size) cs' x ∧ Below w.heap.size w w' := by
  obtain ⟨v0, rfl, q0⟩ := rd_Book h
  rw [sz_Book] at hm
  obtain ⟨A0, c0, rfl⟩ := q0.form
  go_enter Tryd.func15, Tryd.ntmps15
  go_wp2_with fail
  refine (to2_LeaseS _ _ _ (q0.keep (by (repeat (first | (with_reducible exact Below.refl _ _) | (with_reducible assumption) | ((with_reducible refine Below.setCell ?_ ?_ _); rotate_left; focus (first | omega | (simp; done) | (simp; omega))) | ((with_reducible refine Below.alloc ?_ ?_ _); rotate_left; focus (first | omega | (simp; done) | (simp; omega))) | (with_reducible refine Below.drew ?_) | (with_reducible refine below_drewN ?_ _) | (refine Below.trans ?_ (Below.mono (by with_reducible assumption) (by (first | omega | (simp; done) | (simp; omega)))))))) (by first | omega | (simp; done) | (simp; omega))) (by omega)).mono ?_
  rintro e w1 ⟨_, rfl, ho0, hb1⟩
  obtain ⟨D0, d0, rfl⟩ := ho0.form
  have hz1 := hb1.size; try simp at hz1
  obtain ⟨hc10, hf10⟩ := box hb1 (w.heap.size) (by first | omega | (simp; done) | (simp; omega))
  obtain ⟨hc11, hf11⟩ := box hb1 (w.heap.size + 1) (by first | omega | (simp; done) | (simp; omega))
  obtain ⟨hc12, hf12⟩ := box hb1 (w.heap.size + 1 + 1) (by first | omega | (simp; done) | (simp; omega))
  go_wp2
  refine bodyPost_ret (v := .agg #[.slice D0 x.Leases.length d0]) (by simp [results, Tryd.results15, go_sem, hc10, hf10, hc11, hf11, hc12, hf12]) rfl ⟨[.slice D0 x.Leases.length d0], rfl, ?_, by (repeat (first | (with_reducible exact Below.refl _ _) | (with_reducible assumption) | ((with_reducible refine Below.setCell ?_ ?_ _); rotate_left; focus (first | omega | (simp; done) | (simp; omega))) | ((with_reducible refine Below.alloc ?_ ?_ _); rotate_left; focus (first | omega | (simp; done) | (simp; omega))) | (with_reducible refine Below.drew ?_) | (with_reducible refine below_drewN ?_ _) | (refine Below.trans ?_ (Below.mono (by with_reducible assumption) (by (first | omega | (simp; done) | (simp; omega)))))))⟩
  refine of_own_Book (SlOwn.off ho0 (by (repeat (first | (with_reducible exact Out.refl _ _) | (with_reducible assumption) | ((with_reducible refine Out.setCell ?_ ?_ _); rotate_left; focus (first | (refine Or.inl ?_; (first | omega | (simp; done) | (simp; omega))) | (refine Or.inr ?_; (first | omega | (simp; done) | (simp; omega))))) | (with_reducible refine Out.alloc ?_ _) | (with_reducible refine Out.drew ?_) | (with_reducible refine Out.drewN ?_ _) | (refine Out.step ?_ (by with_reducible assumption)))))) (inR_mono (by first | omega | (simp; done) | (simp; omega)) (by first | omega | (simp; done) | (simp; omega)))
set_option maxHeartbeats 1600000 in
theorem eq2_Book (cs cs' : List Value) (x y : Book) (w : World) (h : BookR.Rd w w.heap.size cs x) (h' : BookR.Rd w w.heap.size cs' y) (m : BookR.sz x ≤ 140737488351232) (m' : BookR.sz y ≤ 140737488351232) :
    Calls Tryd.prog 17 #[.agg cs.toArray, .agg cs'.toArray] w fun e w' => e = .returned (.bool (decide (x = y))) ∧ Below w.heap.size w w' := by
  obtain ⟨v0, rfl, q0⟩ := rd_Book h
  obtain ⟨A0, c0, rfl⟩ := q0.form
  obtain ⟨v0', rfl, q0'⟩ := rd_Book h'
  obtain ⟨A0', c0', rfl⟩ := q0'.form
  rw [sz_Book] at m m'
  have m0 : szList LeaseR x.Leases ≤ 140737488351232 := by omega
  have m0' : szList LeaseR y.Leases ≤ 140737488351232 := by omega
  clear m m'
  have HX : Hid (∀ b : Bool, b = decide (x.Leases = y.Leases) → b = decide (x = y)) := Lib.hid (by intro b hb; rw [hb]; cases x; cases y; simp)
  go_enter Tryd.func17, Tryd.ntmps17
  go_wp2_with (first
  | (go_at_call 35; refine (eq2_LeaseS _ _ _ _ _ (by first | exact q0.keep (by (repeat (first | (with_reducible exact Below.refl _ _) | (with_reducible assumption) | ((with_reducible refine Below.setCell ?_ ?_ _); rotate_left; focus (first | omega | (simp; done) | (simp; omega))) | ((with_reducible refine Below.alloc ?_ ?_ _); rotate_left; focus (first | omega | (simp; done) | (simp; omega))) | (with_reducible refine Below.drew ?_) | (with_reducible refine below_drewN ?_ _) | (refine Below.trans ?_ (Below.mono (by with_reducible assumption) (by (first | omega | (simp; done) | (simp; omega)))))))) (by first | omega | (simp; done) | (simp; omega))) (by first | exact q0'.keep (by (repeat (first | (with_reducible exact Below.refl _ _) | (with_reducible assumption) | ((with_reducible refine Below.setCell ?_ ?_ _); rotate_left; focus (first | omega | (simp; done) | (simp; omega))) | ((with_reducible refine Below.alloc ?_ ?_ _); rotate_left; focus (first | omega | (simp; done) | (simp; omega))) | (with_reducible refine Below.drew ?_) | (with_reducible refine below_drewN ?_ _) | (refine Below.trans ?_ (Below.mono (by with_reducible assumption) (by (first | omega | (simp; done) | (simp; omega)))))))) (by first | omega | (simp; done) | (simp; omega))) (by assumption) (by assumption)).mono ?_; rintro e w1 ⟨rfl, hb1⟩; have hz1 := hb1.size; (try simp at hz1); obtain ⟨hc10, hf10⟩ := box hb1 (w.heap.size) (by first | omega | (simp; done) | (simp; omega)); obtain ⟨hc11, hf11⟩ := box hb1 (w.heap.size + 1) (by first | omega | (simp; done) | (simp; omega))))
  all_goals (go_ret; exact ⟨ret_bool (HX.out _ (by simp_all)), by (repeat (first | (with_reducible exact Below.refl _ _) | (with_reducible assumption) | ((with_reducible refine Below.setCell ?_ ?_ _); rotate_left; focus (first | omega | (simp; done) | (simp; omega))) | ((with_reducible refine Below.alloc ?_ ?_ _); rotate_left; focus (first | omega | (simp; done) | (simp; omega))) | (with_reducible refine Below.drew ?_) | (with_reducible refine below_drewN ?_ _) | (refine Below.trans ?_ (Below.mono (by with_reducible assumption) (by (first | omega | (simp; done) | (simp; omega)))))))⟩)
def Book.markTop (k : Nat) (x : Book) : Book := { x with Leases := mkList LeaseR (k) x.Leases }
def Book.cntTop (x : Book) : Nat := cntList LeaseR x.Leases
theorem cnt_bd_Book (x : Book) : x.cntTop ≤ 16 * BookR.sz x := by
  have h0 := cnt_bd_LeaseS x.Leases
  rw [sz_Book]
  show cntList LeaseR x.Leases ≤ _
  omega
set_option maxHeartbeats 800000 in
theorem mark2_Book (cs : List Value) (x : Book) (S : Nat → Prop) (k : Nat) (w : World) (h : BookR.Own w S cs x) (m0 : szList LeaseR x.Leases ≤ 2097152) (hS : ∀ g, S g → g < w.heap.size) (h0 : 0 < k) (hk : k ≤ 100000000) :
    Calls Tryd.prog 27 #[.agg cs.toArray, .int .i64 k] w fun e w' => e = .returned (.int .i64 ((k + x.cntTop : Nat) : Int)) ∧ BookR.Own w' S cs (x.markTop k) ∧ Out S w w' := by
  obtain ⟨v0, S0, rfl, q0, s0⟩ := own_Book h
  rw [show k + x.cntTop = k + cntList LeaseR x.Leases from rfl]
  obtain ⟨A0, c0, rfl⟩ := q0.form
  have hcb0 := cnt_bd_LeaseS x.Leases
  go_enter Tryd.func27, Tryd.ntmps27
  go_wp2_with fail
  replace q0 := q0.keep (w' := w.alloc (.cells #[.slice A0 x.Leases.length c0] 36)) (by (repeat (first | (with_reducible exact Below.refl _ _) | (with_reducible assumption) | ((with_reducible refine Below.setCell ?_ ?_ _); rotate_left; focus (first | omega | (simp; done) | (simp; omega))) | ((with_reducible refine Below.alloc ?_ ?_ _); rotate_left; focus (first | omega | (simp; done) | (simp; omega))) | (with_reducible refine Below.drew ?_) | (with_reducible refine below_drewN ?_ _) | (refine Below.trans ?_ (Below.mono (by with_reducible assumption) (by (first | omega | (simp; done) | (simp; omega))))))))
  have hO := Out.of_below (S := S) (w := w) (w' := w.alloc (.cells #[.slice A0 x.Leases.length c0] 36)) (by (repeat (first | (with_reducible exact Below.refl _ _) | (with_reducible assumption) | ((with_reducible refine Below.setCell ?_ ?_ _); rotate_left; focus (first | omega | (simp; done) | (simp; omega))) | ((with_reducible refine Below.alloc ?_ ?_ _); rotate_left; focus (first | omega | (simp; done) | (simp; omega))) | (with_reducible refine Below.drew ?_) | (with_reducible refine below_drewN ?_ _) | (refine Below.trans ?_ (Below.mono (by with_reducible assumption) (by (first | omega | (simp; done) | (simp; omega))))))))
  refine (Calls.cast (by push_cast; rfl) (mark2_LeaseS _ _ _ (k) _ q0 m0 (fun g hg => by have h1 := hS g (s0 g hg); have h2 := hO.size; omega) (by omega) (by omega))).mono ?_
  rintro e w1 ⟨rfl, r0, ho0⟩
  replace hO := hO.trans (ho0.wide s0)
  go_wp2
  go_ret
  refine ⟨by first | rfl | (push_cast; rfl), ?_, hO⟩
  exact of_own_Book (x := x.markTop k) r0 s0
set_option maxHeartbeats 800000 in
theorem held2_Book (cs : List Value) (x : Book) (k : Nat) (w : World) (h : BookR.Rd w w.heap.size cs (x.markTop k)) (m0 : szList LeaseR x.Leases ≤ 2097152) (h0 : 0 < k) (hk : k ≤ 100000000) :
    Calls Tryd.prog 28 #[.agg cs.toArray, .int .i64 k] w fun e w' => e = .returned (.int .i64 ((k + x.cntTop : Nat) : Int)) ∧ Below w.heap.size w w' := by
  obtain ⟨v0, rfl, q0⟩ := rd_Book h
  rw [show k + x.cntTop = k + cntList LeaseR x.Leases from rfl]
  replace q0 : SlRd LeaseR w w.heap.size v0 (mkList LeaseR (k) x.Leases) := q0
  obtain ⟨A0, c0, rfl⟩ := q0.form
  have hcb0 := cnt_bd_LeaseS x.Leases
  go_enter Tryd.func28, Tryd.ntmps28
  go_wp2_with fail
  refine (Calls.cast (by push_cast; rfl) (held2_LeaseS _ _ (k) _ (q0.keep (by (repeat (first | (with_reducible exact Below.refl _ _) | (with_reducible assumption) | ((with_reducible refine Below.setCell ?_ ?_ _); rotate_left; focus (first | omega | (simp; done) | (simp; omega))) | ((with_reducible refine Below.alloc ?_ ?_ _); rotate_left; focus (first | omega | (simp; done) | (simp; omega))) | (with_reducible refine Below.drew ?_) | (with_reducible refine below_drewN ?_ _) | (refine Below.trans ?_ (Below.mono (by with_reducible assumption) (by (first | omega | (simp; done) | (simp; omega)))))))) (by first | omega | (simp; done) | (simp; omega))) m0 (by omega) (by omega))).mono ?_
  rintro e w1 ⟨rfl, hb1⟩
  have hz1 := hb1.size; try simp at hz1
  obtain ⟨hc10, hf10⟩ := box hb1 (w.heap.size) (by first | omega | (simp; done) | (simp; omega))
  have hpos0 : (0 : Int) ≤ ((k + cntList LeaseR x.Leases : Nat) : Int) := by omega
  push_cast at hpos0
  go_wp2
  go_ret
  exact ⟨by first | rfl | (push_cast; rfl), by (repeat (first | (with_reducible exact Below.refl _ _) | (with_reducible assumption) | ((with_reducible refine Below.setCell ?_ ?_ _); rotate_left; focus (first | omega | (simp; done) | (simp; omega))) | ((with_reducible refine Below.alloc ?_ ?_ _); rotate_left; focus (first | omega | (simp; done) | (simp; omega))) | (with_reducible refine Below.drew ?_) | (with_reducible refine below_drewN ?_ _) | (refine Below.trans ?_ (Below.mono (by with_reducible assumption) (by (first | omega | (simp; done) | (simp; omega)))))))⟩
end Go.Proofs.YtbfnkfaagmjfnaaDoor

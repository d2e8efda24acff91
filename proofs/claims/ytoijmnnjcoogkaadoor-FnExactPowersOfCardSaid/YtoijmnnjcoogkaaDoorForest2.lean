/- Contracts of the helpers on Forest (printed by wip/gen/gen2.py). -/
import Derived.Test.YtoijmnnjcoogkaaDoorTokenS2
set_option linter.unusedSimpArgs false
set_option linter.unusedVariables false
set_option maxRecDepth 20000
namespace Go.Proofs.YtoijmnnjcoogkaaDoor
open Go.RowKit
structure Forest where
  Tokens : List Token
  deriving DecidableEq
def ForestR : Rep Forest := (TokenR.sl 48).as (fun x => x.Tokens) (fun p => ⟨p⟩)
theorem rd_Forest {w : World} {B : Nat} {cs : List Value} {x : Forest} (h : ForestR.Rd w B cs x) : ∃ v0, cs = [v0] ∧ SlRd TokenR w B v0 x.Tokens := by
  obtain ⟨v0, rfl, h0⟩ := h
  exact ⟨v0, rfl, h0⟩
theorem of_rd_Forest {w : World} {B : Nat} {x : Forest} {v0 : Value} (h0 : SlRd TokenR w B v0 x.Tokens) : ForestR.Rd w B [v0] x := ⟨_, rfl, h0⟩
theorem own_Forest {w : World} {S : Nat → Prop} {cs : List Value} {x : Forest} (h : ForestR.Own w S cs x) : ∃ v0, ∃ S0 : Nat → Prop, cs = [v0] ∧ SlOwn TokenR 48 w S0 v0 x.Tokens ∧ (∀ g, S0 g → S g) := by
  obtain ⟨v0, rfl, h0⟩ := h
  exact ⟨v0, S, rfl, h0, (fun g hg => hg)⟩
theorem of_own_Forest {w : World} {S : Nat → Prop} {x : Forest} {v0 : Value} {S0 : Nat → Prop} (h0 : SlOwn TokenR 48 w S0 v0 x.Tokens) (s0 : ∀ g, S0 g → S g) : ForestR.Own w S [v0] x := ⟨_, rfl, h0.wide s0⟩
theorem sz_Forest (x : Forest) : ForestR.sz x = szList TokenR x.Tokens := by simp [ForestR, Rep.as, Rep.pair, Rep.sl, intR, Rep.flat]
set_option maxHeartbeats 800000 in
theorem sz2_Forest (cs : List Value) (x : Forest) (left : Int) (w : World) (h : ForestR.Rd w w.heap.size cs x) (h1 : -1 ≤ left) (h2 : left ≤ 1048576) :
    Calls Tryd.prog 4 #[.agg cs.toArray, .int .i64 left] w fun e w' => e = .returned (.int .i64 (leftOf left (ForestR.sz x))) ∧ Below w.heap.size w w' := by
  obtain ⟨v0, rfl, q0⟩ := rd_Forest h
  rw [sz_Forest]
  obtain ⟨A0, c0, rfl⟩ := q0.form
  go_enter Tryd.func4, Tryd.ntmps4
  go_wp2_with fail
  refine (sz2_TokenS _ _ _ _ (q0.keep (by (repeat (first | (with_reducible exact Below.refl _ _) | (with_reducible assumption) | ((with_reducible refine Below.setCell ?_ ?_ _); rotate_left; focus (first | omega | (simp; done) | (simp; omega))) | ((with_reducible refine Below.alloc ?_ ?_ _); rotate_left; focus (first | omega | (simp; done) | (simp; omega))) | (with_reducible refine Below.drew ?_) | (with_reducible refine below_drewN ?_ _) | (refine Below.trans ?_ (Below.mono (by with_reducible assumption) (by (first | omega | (simp; done) | (simp; omega)))))))) (by first | omega | (simp; done) | (simp; omega))) h1 h2).mono ?_
  rintro e w1 ⟨rfl, hb1⟩
  have hz1 := hb1.size; try simp at hz1
  obtain ⟨hc10, hf10⟩ := box hb1 (w.heap.size) (by first | omega | (simp; done) | (simp; omega))
  by_cases n0 : leftOf left (szList TokenR x.Tokens) < 0
  · go_wp2
    go_ret
    exact ⟨ret_int (by rw [← Nat.add_zero (szList TokenR x.Tokens)]; exact (leftOf_neg n0).symm), by (repeat (first | (with_reducible exact Below.refl _ _) | (with_reducible assumption) | ((with_reducible refine Below.setCell ?_ ?_ _); rotate_left; focus (first | omega | (simp; done) | (simp; omega))) | ((with_reducible refine Below.alloc ?_ ?_ _); rotate_left; focus (first | omega | (simp; done) | (simp; omega))) | (with_reducible refine Below.drew ?_) | (with_reducible refine below_drewN ?_ _) | (refine Below.trans ?_ (Below.mono (by with_reducible assumption) (by (first | omega | (simp; done) | (simp; omega)))))))⟩
  have g0 := Int.not_lt.1 n0
  go_wp2
  go_ret
  exact ⟨rfl, by (repeat (first | (with_reducible exact Below.refl _ _) | (with_reducible assumption) | ((with_reducible refine Below.setCell ?_ ?_ _); rotate_left; focus (first | omega | (simp; done) | (simp; omega))) | ((with_reducible refine Below.alloc ?_ ?_ _); rotate_left; focus (first | omega | (simp; done) | (simp; omega))) | (with_reducible refine Below.drew ?_) | (with_reducible refine below_drewN ?_ _) | (refine Below.trans ?_ (Below.mono (by with_reducible assumption) (by (first | omega | (simp; done) | (simp; omega)))))))⟩
set_option maxHeartbeats 800000 in
theorem to2_Forest (cs : List Value) (x : Forest) (w : World) (h : ForestR.Rd w w.heap.size cs x) (hm : ForestR.sz x ≤ 1048576) :
    Calls Tryd.prog 7 #[.agg cs.toArray] w fun e w' => ∃ cs', e = .returned (.agg cs'.toArray) ∧ ForestR.Own w' (InR w.heap.size w'.heap.size) cs' x ∧ Below w.heap.size w w' := by
  obtain ⟨v0, rfl, q0⟩ := rd_Forest h
  rw [sz_Forest] at hm
  obtain ⟨A0, c0, rfl⟩ := q0.form
  go_enter Tryd.func7, Tryd.ntmps7
  go_wp2_with fail
  refine (to2_TokenS _ _ _ (q0.keep (by (repeat (first | (with_reducible exact Below.refl _ _) | (with_reducible assumption) | ((with_reducible refine Below.setCell ?_ ?_ _); rotate_left; focus (first | omega | (simp; done) | (simp; omega))) | ((with_reducible refine Below.alloc ?_ ?_ _); rotate_left; focus (first | omega | (simp; done) | (simp; omega))) | (with_reducible refine Below.drew ?_) | (with_reducible refine below_drewN ?_ _) | (refine Below.trans ?_ (Below.mono (by with_reducible assumption) (by (first | omega | (simp; done) | (simp; omega)))))))) (by first | omega | (simp; done) | (simp; omega))) (by omega)).mono ?_
  rintro e w1 ⟨_, rfl, ho0, hb1⟩
  obtain ⟨D0, d0, rfl⟩ := ho0.form
  have hz1 := hb1.size; try simp at hz1
  obtain ⟨hc10, hf10⟩ := box hb1 (w.heap.size) (by first | omega | (simp; done) | (simp; omega))
  obtain ⟨hc11, hf11⟩ := box hb1 (w.heap.size + 1) (by first | omega | (simp; done) | (simp; omega))
  obtain ⟨hc12, hf12⟩ := box hb1 (w.heap.size + 1 + 1) (by first | omega | (simp; done) | (simp; omega))
  go_wp2
  refine bodyPost_ret (v := .agg #[.slice D0 x.Tokens.length d0]) (by simp [results, Tryd.results7, go_sem, hc10, hf10, hc11, hf11, hc12, hf12]) rfl ⟨[.slice D0 x.Tokens.length d0], rfl, ?_, by (repeat (first | (with_reducible exact Below.refl _ _) | (with_reducible assumption) | ((with_reducible refine Below.setCell ?_ ?_ _); rotate_left; focus (first | omega | (simp; done) | (simp; omega))) | ((with_reducible refine Below.alloc ?_ ?_ _); rotate_left; focus (first | omega | (simp; done) | (simp; omega))) | (with_reducible refine Below.drew ?_) | (with_reducible refine below_drewN ?_ _) | (refine Below.trans ?_ (Below.mono (by with_reducible assumption) (by (first | omega | (simp; done) | (simp; omega)))))))⟩
  refine of_own_Forest (SlOwn.off ho0 (by (repeat (first | (with_reducible exact Out.refl _ _) | (with_reducible assumption) | ((with_reducible refine Out.setCell ?_ ?_ _); rotate_left; focus (first | (refine Or.inl ?_; (first | omega | (simp; done) | (simp; omega))) | (refine Or.inr ?_; (first | omega | (simp; done) | (simp; omega))))) | (with_reducible refine Out.alloc ?_ _) | (with_reducible refine Out.drew ?_) | (with_reducible refine Out.drewN ?_ _) | (refine Out.step ?_ (by with_reducible assumption)))))) (inR_mono (by first | omega | (simp; done) | (simp; omega)) (by first | omega | (simp; done) | (simp; omega)))
set_option maxHeartbeats 1600000 in
theorem eq2_Forest (cs cs' : List Value) (x y : Forest) (w : World) (h : ForestR.Rd w w.heap.size cs x) (h' : ForestR.Rd w w.heap.size cs' y) (m : ForestR.sz x ≤ 140737488351232) (m' : ForestR.sz y ≤ 140737488351232) :
    Calls Tryd.prog 11 #[.agg cs.toArray, .agg cs'.toArray] w fun e w' => e = .returned (.bool (decide (x = y))) ∧ Below w.heap.size w w' := by
  obtain ⟨v0, rfl, q0⟩ := rd_Forest h
  obtain ⟨A0, c0, rfl⟩ := q0.form
  obtain ⟨v0', rfl, q0'⟩ := rd_Forest h'
  obtain ⟨A0', c0', rfl⟩ := q0'.form
  rw [sz_Forest] at m m'
  have m0 : szList TokenR x.Tokens ≤ 140737488351232 := by omega
  have m0' : szList TokenR y.Tokens ≤ 140737488351232 := by omega
  clear m m'
  have HX : Hid (∀ b : Bool, b = decide (x.Tokens = y.Tokens) → b = decide (x = y)) := Lib.hid (by intro b hb; rw [hb]; cases x; cases y; simp)
  go_enter Tryd.func11, Tryd.ntmps11
  go_wp2_with (first
  | (go_at_call 28; refine (eq2_TokenS _ _ _ _ _ (by first | exact q0.keep (by (repeat (first | (with_reducible exact Below.refl _ _) | (with_reducible assumption) | ((with_reducible refine Below.setCell ?_ ?_ _); rotate_left; focus (first | omega | (simp; done) | (simp; omega))) | ((with_reducible refine Below.alloc ?_ ?_ _); rotate_left; focus (first | omega | (simp; done) | (simp; omega))) | (with_reducible refine Below.drew ?_) | (with_reducible refine below_drewN ?_ _) | (refine Below.trans ?_ (Below.mono (by with_reducible assumption) (by (first | omega | (simp; done) | (simp; omega)))))))) (by first | omega | (simp; done) | (simp; omega))) (by first | exact q0'.keep (by (repeat (first | (with_reducible exact Below.refl _ _) | (with_reducible assumption) | ((with_reducible refine Below.setCell ?_ ?_ _); rotate_left; focus (first | omega | (simp; done) | (simp; omega))) | ((with_reducible refine Below.alloc ?_ ?_ _); rotate_left; focus (first | omega | (simp; done) | (simp; omega))) | (with_reducible refine Below.drew ?_) | (with_reducible refine below_drewN ?_ _) | (refine Below.trans ?_ (Below.mono (by with_reducible assumption) (by (first | omega | (simp; done) | (simp; omega)))))))) (by first | omega | (simp; done) | (simp; omega))) (by assumption) (by assumption)).mono ?_; rintro e w1 ⟨rfl, hb1⟩; have hz1 := hb1.size; (try simp at hz1); obtain ⟨hc10, hf10⟩ := box hb1 (w.heap.size) (by first | omega | (simp; done) | (simp; omega)); obtain ⟨hc11, hf11⟩ := box hb1 (w.heap.size + 1) (by first | omega | (simp; done) | (simp; omega))))
  all_goals (go_ret; exact ⟨ret_bool (HX.out _ (by simp_all)), by (repeat (first | (with_reducible exact Below.refl _ _) | (with_reducible assumption) | ((with_reducible refine Below.setCell ?_ ?_ _); rotate_left; focus (first | omega | (simp; done) | (simp; omega))) | ((with_reducible refine Below.alloc ?_ ?_ _); rotate_left; focus (first | omega | (simp; done) | (simp; omega))) | (with_reducible refine Below.drew ?_) | (with_reducible refine below_drewN ?_ _) | (refine Below.trans ?_ (Below.mono (by with_reducible assumption) (by (first | omega | (simp; done) | (simp; omega)))))))⟩)
def Forest.markTop (k : Nat) (x : Forest) : Forest := { x with Tokens := mkList TokenR (k) x.Tokens }
def Forest.cntTop (x : Forest) : Nat := cntList TokenR x.Tokens
theorem cnt_bd_Forest (x : Forest) : x.cntTop ≤ 16 * ForestR.sz x := by
  have h0 := cnt_bd_TokenS x.Tokens
  rw [sz_Forest]
  show cntList TokenR x.Tokens ≤ _
  omega
set_option maxHeartbeats 800000 in
theorem mark2_Forest (cs : List Value) (x : Forest) (S : Nat → Prop) (k : Nat) (w : World) (h : ForestR.Own w S cs x) (m0 : szList TokenR x.Tokens ≤ 2097152) (hS : ∀ g, S g → g < w.heap.size) (h0 : 0 < k) (hk : k ≤ 100000000) :
    Calls Tryd.prog 12 #[.agg cs.toArray, .int .i64 k] w fun e w' => e = .returned (.int .i64 ((k + x.cntTop : Nat) : Int)) ∧ ForestR.Own w' S cs (x.markTop k) ∧ Out S w w' := by
  obtain ⟨v0, S0, rfl, q0, s0⟩ := own_Forest h
  rw [show k + x.cntTop = k + cntList TokenR x.Tokens from rfl]
  obtain ⟨A0, c0, rfl⟩ := q0.form
  have hcb0 := cnt_bd_TokenS x.Tokens
  go_enter Tryd.func12, Tryd.ntmps12
  go_wp2_with fail
  replace q0 := q0.keep (w' := w.alloc (.cells #[.slice A0 x.Tokens.length c0] 33)) (by (repeat (first | (with_reducible exact Below.refl _ _) | (with_reducible assumption) | ((with_reducible refine Below.setCell ?_ ?_ _); rotate_left; focus (first | omega | (simp; done) | (simp; omega))) | ((with_reducible refine Below.alloc ?_ ?_ _); rotate_left; focus (first | omega | (simp; done) | (simp; omega))) | (with_reducible refine Below.drew ?_) | (with_reducible refine below_drewN ?_ _) | (refine Below.trans ?_ (Below.mono (by with_reducible assumption) (by (first | omega | (simp; done) | (simp; omega))))))))
  have hO := Out.of_below (S := S) (w := w) (w' := w.alloc (.cells #[.slice A0 x.Tokens.length c0] 33)) (by (repeat (first | (with_reducible exact Below.refl _ _) | (with_reducible assumption) | ((with_reducible refine Below.setCell ?_ ?_ _); rotate_left; focus (first | omega | (simp; done) | (simp; omega))) | ((with_reducible refine Below.alloc ?_ ?_ _); rotate_left; focus (first | omega | (simp; done) | (simp; omega))) | (with_reducible refine Below.drew ?_) | (with_reducible refine below_drewN ?_ _) | (refine Below.trans ?_ (Below.mono (by with_reducible assumption) (by (first | omega | (simp; done) | (simp; omega))))))))
  refine (Calls.cast (by push_cast; rfl) (mark2_TokenS _ _ _ (k) _ q0 m0 (fun g hg => by have h1 := hS g (s0 g hg); have h2 := hO.size; omega) (by omega) (by omega))).mono ?_
  rintro e w1 ⟨rfl, r0, ho0⟩
  replace hO := hO.trans (ho0.wide s0)
  go_wp2
  go_ret
  refine ⟨by first | rfl | (push_cast; rfl), ?_, hO⟩
  exact of_own_Forest (x := x.markTop k) r0 s0
end Go.Proofs.YtoijmnnjcoogkaaDoor

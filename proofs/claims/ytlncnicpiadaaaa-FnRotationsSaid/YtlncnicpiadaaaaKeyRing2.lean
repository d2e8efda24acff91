/- Contracts of the helpers on KeyRing (printed by wip/gen/gen2.py). -/
import Derived.Test.YtlncnicpiadaaaaIntS2
set_option linter.unusedSimpArgs false
set_option linter.unusedVariables false
set_option maxRecDepth 20000
namespace Go.Proofs.Ytlncnicpiadaaaa
open Go.RowKit
structure KeyRing where
  First : Int
  Secrets : List Int
  deriving DecidableEq
def KeyRingR : Rep KeyRing := (Rep.pair intR (intR.sl 3)).as (fun x => (x.First, x.Secrets)) (fun p => ⟨p.1, p.2⟩)
theorem rd_KeyRing {w : World} {B : Nat} {cs : List Value} {x : KeyRing} (h : KeyRingR.Rd w B cs x) : ∃ v0, cs = [.int .i64 x.First, v0] ∧ SlRd intR w B v0 x.Secrets := by
  obtain ⟨_, _, rfl, ⟨rfl, -⟩, ⟨v0, rfl, h0⟩⟩ := h
  exact ⟨v0, rfl, h0⟩
theorem of_rd_KeyRing {w : World} {B : Nat} {x : KeyRing} {v0 : Value} (h0 : SlRd intR w B v0 x.Secrets) : KeyRingR.Rd w B [.int .i64 x.First, v0] x := ⟨[_], _, rfl, ⟨rfl, trivial⟩, ⟨_, rfl, h0⟩⟩
theorem own_KeyRing {w : World} {S : Nat → Prop} {cs : List Value} {x : KeyRing} (h : KeyRingR.Own w S cs x) : ∃ v0, ∃ S0 : Nat → Prop, cs = [.int .i64 x.First, v0] ∧ SlOwn intR 3 w S0 v0 x.Secrets ∧ (∀ g, S0 g → S g) := by
  obtain ⟨_, _, U0, T0, rfl, ⟨rfl, -⟩, ⟨v0, rfl, h0⟩, a0, d0⟩ := h
  exact ⟨v0, T0, rfl, h0, (fun g hg => (d0 g hg))⟩
theorem of_own_KeyRing {w : World} {S : Nat → Prop} {x : KeyRing} {v0 : Value} {S0 : Nat → Prop} (h0 : SlOwn intR 3 w S0 v0 x.Secrets) (s0 : ∀ g, S0 g → S g) : KeyRingR.Own w S [.int .i64 x.First, v0] x := ⟨[_], _, fun _ => False, S, rfl, ⟨rfl, trivial⟩, ⟨_, rfl, h0.wide s0⟩, (fun g hg => hg.elim), (fun g hg => hg)⟩
theorem sz_KeyRing (x : KeyRing) : KeyRingR.sz x = szList intR x.Secrets := by simp [KeyRingR, Rep.as, Rep.pair, Rep.sl, intR, Rep.flat]
set_option maxHeartbeats 800000 in
theorem sz2_KeyRing (cs : List Value) (x : KeyRing) (left : Int) (w : World) (h : KeyRingR.Rd w w.heap.size cs x) (h1 : -1 ≤ left) (h2 : left ≤ 1048576) :
    Calls Try.prog 6 #[.agg cs.toArray, .int .i64 left] w fun e w' => e = .returned (.int .i64 (leftOf left (KeyRingR.sz x))) ∧ Below w.heap.size w w' := by
  obtain ⟨v0, rfl, q0⟩ := rd_KeyRing h
  rw [sz_KeyRing]
  obtain ⟨A0, c0, rfl⟩ := q0.form
  go_enter Try.func6, Try.ntmps6
  go_wp2_with fail
  refine (sz2_IntS _ _ _ _ (q0.keep (by (repeat (first | (with_reducible exact Below.refl _ _) | (with_reducible assumption) | ((with_reducible refine Below.setCell ?_ ?_ _); rotate_left; focus (first | omega | (simp; done) | (simp; omega))) | ((with_reducible refine Below.alloc ?_ ?_ _); rotate_left; focus (first | omega | (simp; done) | (simp; omega))) | (with_reducible refine Below.drew ?_) | (with_reducible refine below_drewN ?_ _) | (refine Below.trans ?_ (Below.mono (by with_reducible assumption) (by (first | omega | (simp; done) | (simp; omega)))))))) (by first | omega | (simp; done) | (simp; omega))) h1 h2).mono ?_
  rintro e w1 ⟨rfl, hb1⟩
  have hz1 := hb1.size; try simp at hz1
  obtain ⟨hc10, hf10⟩ := box hb1 (w.heap.size) (by first | omega | (simp; done) | (simp; omega))
  by_cases n0 : leftOf left (szList intR x.Secrets) < 0
  · go_wp2
    go_ret
    exact ⟨ret_int (by rw [← Nat.add_zero (szList intR x.Secrets)]; exact (leftOf_neg n0).symm), by (repeat (first | (with_reducible exact Below.refl _ _) | (with_reducible assumption) | ((with_reducible refine Below.setCell ?_ ?_ _); rotate_left; focus (first | omega | (simp; done) | (simp; omega))) | ((with_reducible refine Below.alloc ?_ ?_ _); rotate_left; focus (first | omega | (simp; done) | (simp; omega))) | (with_reducible refine Below.drew ?_) | (with_reducible refine below_drewN ?_ _) | (refine Below.trans ?_ (Below.mono (by with_reducible assumption) (by (first | omega | (simp; done) | (simp; omega)))))))⟩
  have g0 := Int.not_lt.1 n0
  go_wp2
  go_ret
  exact ⟨rfl, by (repeat (first | (with_reducible exact Below.refl _ _) | (with_reducible assumption) | ((with_reducible refine Below.setCell ?_ ?_ _); rotate_left; focus (first | omega | (simp; done) | (simp; omega))) | ((with_reducible refine Below.alloc ?_ ?_ _); rotate_left; focus (first | omega | (simp; done) | (simp; omega))) | (with_reducible refine Below.drew ?_) | (with_reducible refine below_drewN ?_ _) | (refine Below.trans ?_ (Below.mono (by with_reducible assumption) (by (first | omega | (simp; done) | (simp; omega)))))))⟩
set_option maxHeartbeats 800000 in
theorem to2_KeyRing (cs : List Value) (x : KeyRing) (w : World) (h : KeyRingR.Rd w w.heap.size cs x) (hm : KeyRingR.sz x ≤ 1048576) :
    Calls Try.prog 9 #[.agg cs.toArray] w fun e w' => ∃ cs', e = .returned (.agg cs'.toArray) ∧ KeyRingR.Own w' (InR w.heap.size w'.heap.size) cs' x ∧ Below w.heap.size w w' := by
  obtain ⟨v0, rfl, q0⟩ := rd_KeyRing h
  rw [sz_KeyRing] at hm
  obtain ⟨A0, c0, rfl⟩ := q0.form
  go_enter Try.func9, Try.ntmps9
  go_wp2_with fail
  refine (to2_IntS _ _ _ (q0.keep (by (repeat (first | (with_reducible exact Below.refl _ _) | (with_reducible assumption) | ((with_reducible refine Below.setCell ?_ ?_ _); rotate_left; focus (first | omega | (simp; done) | (simp; omega))) | ((with_reducible refine Below.alloc ?_ ?_ _); rotate_left; focus (first | omega | (simp; done) | (simp; omega))) | (with_reducible refine Below.drew ?_) | (with_reducible refine below_drewN ?_ _) | (refine Below.trans ?_ (Below.mono (by with_reducible assumption) (by (first | omega | (simp; done) | (simp; omega)))))))) (by first | omega | (simp; done) | (simp; omega))) (by omega)).mono ?_
  rintro e w1 ⟨_, rfl, ho0, hb1⟩
  obtain ⟨D0, d0, rfl⟩ := ho0.form
  have hz1 := hb1.size; try simp at hz1
  obtain ⟨hc10, hf10⟩ := box hb1 (w.heap.size) (by first | omega | (simp; done) | (simp; omega))
  obtain ⟨hc11, hf11⟩ := box hb1 (w.heap.size + 1) (by first | omega | (simp; done) | (simp; omega))
  obtain ⟨hc12, hf12⟩ := box hb1 (w.heap.size + 1 + 1) (by first | omega | (simp; done) | (simp; omega))
  go_wp2
  refine bodyPost_ret (v := .agg #[.int .i64 x.First, .slice D0 x.Secrets.length d0]) (by simp [results, Try.results9, go_sem, hc10, hf10, hc11, hf11, hc12, hf12]) rfl ⟨[.int .i64 x.First, .slice D0 x.Secrets.length d0], rfl, ?_, by (repeat (first | (with_reducible exact Below.refl _ _) | (with_reducible assumption) | ((with_reducible refine Below.setCell ?_ ?_ _); rotate_left; focus (first | omega | (simp; done) | (simp; omega))) | ((with_reducible refine Below.alloc ?_ ?_ _); rotate_left; focus (first | omega | (simp; done) | (simp; omega))) | (with_reducible refine Below.drew ?_) | (with_reducible refine below_drewN ?_ _) | (refine Below.trans ?_ (Below.mono (by with_reducible assumption) (by (first | omega | (simp; done) | (simp; omega)))))))⟩
  refine of_own_KeyRing (SlOwn.off ho0 (by (repeat (first | (with_reducible exact Out.refl _ _) | (with_reducible assumption) | ((with_reducible refine Out.setCell ?_ ?_ _); rotate_left; focus (first | (refine Or.inl ?_; (first | omega | (simp; done) | (simp; omega))) | (refine Or.inr ?_; (first | omega | (simp; done) | (simp; omega))))) | (with_reducible refine Out.alloc ?_ _) | (with_reducible refine Out.drew ?_) | (with_reducible refine Out.drewN ?_ _) | (refine Out.step ?_ (by with_reducible assumption)))))) (inR_mono (by first | omega | (simp; done) | (simp; omega)) (by first | omega | (simp; done) | (simp; omega)))
set_option maxHeartbeats 1600000 in
theorem eq2_KeyRing (cs cs' : List Value) (x y : KeyRing) (w : World) (h : KeyRingR.Rd w w.heap.size cs x) (h' : KeyRingR.Rd w w.heap.size cs' y) (m : KeyRingR.sz x ≤ 140737488351232) (m' : KeyRingR.sz y ≤ 140737488351232) :
    Calls Try.prog 13 #[.agg cs.toArray, .agg cs'.toArray] w fun e w' => e = .returned (.bool (decide (x = y))) ∧ Below w.heap.size w w' := by
  obtain ⟨v0, rfl, q0⟩ := rd_KeyRing h
  obtain ⟨A0, c0, rfl⟩ := q0.form
  obtain ⟨v0', rfl, q0'⟩ := rd_KeyRing h'
  obtain ⟨A0', c0', rfl⟩ := q0'.form
  rw [sz_KeyRing] at m m'
  have m0 : szList intR x.Secrets ≤ 140737488351232 := by omega
  have m0' : szList intR y.Secrets ≤ 140737488351232 := by omega
  clear m m'
  have HX : Hid (∀ b : Bool, b = decide (x.First = y.First ∧ x.Secrets = y.Secrets) → b = decide (x = y)) := Lib.hid (by intro b hb; rw [hb]; cases x; cases y; simp)
  go_enter Try.func13, Try.ntmps13
  go_wp2_with (first
  | (go_at_call 40; refine (eq2_IntS _ _ _ _ _ (by first | exact q0.keep (by (repeat (first | (with_reducible exact Below.refl _ _) | (with_reducible assumption) | ((with_reducible refine Below.setCell ?_ ?_ _); rotate_left; focus (first | omega | (simp; done) | (simp; omega))) | ((with_reducible refine Below.alloc ?_ ?_ _); rotate_left; focus (first | omega | (simp; done) | (simp; omega))) | (with_reducible refine Below.drew ?_) | (with_reducible refine below_drewN ?_ _) | (refine Below.trans ?_ (Below.mono (by with_reducible assumption) (by (first | omega | (simp; done) | (simp; omega)))))))) (by first | omega | (simp; done) | (simp; omega))) (by first | exact q0'.keep (by (repeat (first | (with_reducible exact Below.refl _ _) | (with_reducible assumption) | ((with_reducible refine Below.setCell ?_ ?_ _); rotate_left; focus (first | omega | (simp; done) | (simp; omega))) | ((with_reducible refine Below.alloc ?_ ?_ _); rotate_left; focus (first | omega | (simp; done) | (simp; omega))) | (with_reducible refine Below.drew ?_) | (with_reducible refine below_drewN ?_ _) | (refine Below.trans ?_ (Below.mono (by with_reducible assumption) (by (first | omega | (simp; done) | (simp; omega)))))))) (by first | omega | (simp; done) | (simp; omega))) (by assumption) (by assumption)).mono ?_; rintro e w1 ⟨rfl, hb1⟩; have hz1 := hb1.size; (try simp at hz1); obtain ⟨hc10, hf10⟩ := box hb1 (w.heap.size) (by first | omega | (simp; done) | (simp; omega)); obtain ⟨hc11, hf11⟩ := box hb1 (w.heap.size + 1) (by first | omega | (simp; done) | (simp; omega))))
  all_goals (go_ret; exact ⟨ret_bool (HX.out _ (by simp_all)), by (repeat (first | (with_reducible exact Below.refl _ _) | (with_reducible assumption) | ((with_reducible refine Below.setCell ?_ ?_ _); rotate_left; focus (first | omega | (simp; done) | (simp; omega))) | ((with_reducible refine Below.alloc ?_ ?_ _); rotate_left; focus (first | omega | (simp; done) | (simp; omega))) | (with_reducible refine Below.drew ?_) | (with_reducible refine below_drewN ?_ _) | (refine Below.trans ?_ (Below.mono (by with_reducible assumption) (by (first | omega | (simp; done) | (simp; omega)))))))⟩)
def KeyRing.markTop (k : Nat) (x : KeyRing) : KeyRing := { x with Secrets := mkList intR (k) x.Secrets }
def KeyRing.cntTop (x : KeyRing) : Nat := cntList intR x.Secrets
theorem cnt_bd_KeyRing (x : KeyRing) : x.cntTop ≤ 16 * KeyRingR.sz x := by
  have h0 := cnt_bd_IntS x.Secrets
  rw [sz_KeyRing]
  show cntList intR x.Secrets ≤ _
  omega
set_option maxHeartbeats 800000 in
theorem mark2_KeyRing (cs : List Value) (x : KeyRing) (S : Nat → Prop) (k : Nat) (w : World) (h : KeyRingR.Own w S cs x) (m0 : szList intR x.Secrets ≤ 2097152) (hS : ∀ g, S g → g < w.heap.size) (h0 : 0 < k) (hk : k ≤ 100000000) :
    Calls Try.prog 15 #[.agg cs.toArray, .int .i64 k] w fun e w' => e = .returned (.int .i64 ((k + x.cntTop : Nat) : Int)) ∧ KeyRingR.Own w' S cs (x.markTop k) ∧ Out S w w' := by
  obtain ⟨v0, S0, rfl, q0, s0⟩ := own_KeyRing h
  rw [show k + x.cntTop = k + cntList intR x.Secrets from rfl]
  obtain ⟨A0, c0, rfl⟩ := q0.form
  have hcb0 := cnt_bd_IntS x.Secrets
  go_enter Try.func15, Try.ntmps15
  go_wp2_with fail
  replace q0 := q0.keep (w' := w.alloc (.cells #[.int .i64 x.First, .slice A0 x.Secrets.length c0] 34)) (by (repeat (first | (with_reducible exact Below.refl _ _) | (with_reducible assumption) | ((with_reducible refine Below.setCell ?_ ?_ _); rotate_left; focus (first | omega | (simp; done) | (simp; omega))) | ((with_reducible refine Below.alloc ?_ ?_ _); rotate_left; focus (first | omega | (simp; done) | (simp; omega))) | (with_reducible refine Below.drew ?_) | (with_reducible refine below_drewN ?_ _) | (refine Below.trans ?_ (Below.mono (by with_reducible assumption) (by (first | omega | (simp; done) | (simp; omega))))))))
  have hO := Out.of_below (S := S) (w := w) (w' := w.alloc (.cells #[.int .i64 x.First, .slice A0 x.Secrets.length c0] 34)) (by (repeat (first | (with_reducible exact Below.refl _ _) | (with_reducible assumption) | ((with_reducible refine Below.setCell ?_ ?_ _); rotate_left; focus (first | omega | (simp; done) | (simp; omega))) | ((with_reducible refine Below.alloc ?_ ?_ _); rotate_left; focus (first | omega | (simp; done) | (simp; omega))) | (with_reducible refine Below.drew ?_) | (with_reducible refine below_drewN ?_ _) | (refine Below.trans ?_ (Below.mono (by with_reducible assumption) (by (first | omega | (simp; done) | (simp; omega))))))))
  refine (Calls.cast (by push_cast; rfl) (mark2_IntS _ _ _ (k) _ q0 (Nat.le_trans (Nat.le_add_right _ _) m0) (by omega))).mono ?_
  rintro e w1 ⟨rfl, r0, ho0⟩
  replace hO := hO.trans (ho0.wide s0)
  go_wp2
  go_ret
  refine ⟨by first | rfl | (push_cast; rfl), ?_, hO⟩
  exact of_own_KeyRing (x := x.markTop k) r0 s0
end Go.Proofs.Ytlncnicpiadaaaa

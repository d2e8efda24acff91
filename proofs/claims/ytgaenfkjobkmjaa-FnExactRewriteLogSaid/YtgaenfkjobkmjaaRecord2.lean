/- Contracts of the helpers on Record (printed by wip/gen/gen2.py). -/
import Derived.Test.YtgaenfkjobkmjaaIntS2
import Derived.Test.YtgaenfkjobkmjaaStringS2
set_option linter.unusedSimpArgs false
set_option linter.unusedVariables false
set_option maxRecDepth 20000
namespace Go.Proofs.Ytgaenfkjobkmjaa
open Go.RowKit
structure Record where
  Kind : Int
  Nums : List Int
  Texts : List ByteArray
  deriving DecidableEq
def RecordR : Rep Record := (Rep.pair intR (Rep.pair (intR.sl 3) (strR.sl 9))).as (fun x => (x.Kind, x.Nums, x.Texts)) (fun p => ⟨p.1, p.2.1, p.2.2⟩)
theorem rd_Record {w : World} {B : Nat} {cs : List Value} {x : Record} (h : RecordR.Rd w B cs x) : ∃ v0 v1, cs = [.int .i64 x.Kind, v0, v1] ∧ SlRd intR w B v0 x.Nums ∧ SlRd strR w B v1 x.Texts := by
  obtain ⟨_, _, rfl, ⟨rfl, -⟩, ⟨_, _, rfl, ⟨v0, rfl, h0⟩, ⟨v1, rfl, h1⟩⟩⟩ := h
  exact ⟨v0, v1, rfl, h0, h1⟩
theorem of_rd_Record {w : World} {B : Nat} {x : Record} {v0 v1 : Value} (h0 : SlRd intR w B v0 x.Nums) (h1 : SlRd strR w B v1 x.Texts) : RecordR.Rd w B [.int .i64 x.Kind, v0, v1] x := ⟨[_], _, rfl, ⟨rfl, trivial⟩, ⟨[_], _, rfl, ⟨_, rfl, h0⟩, ⟨_, rfl, h1⟩⟩⟩
theorem own_Record {w : World} {S : Nat → Prop} {cs : List Value} {x : Record} (h : RecordR.Own w S cs x) : ∃ v0 v1, ∃ S0 S1 : Nat → Prop, cs = [.int .i64 x.Kind, v0, v1] ∧ SlOwn intR 3 w S0 v0 x.Nums ∧ SlOwn strR 9 w S1 v1 x.Texts ∧ (∀ g, S0 g → S g) ∧ (∀ g, S1 g → S g) ∧ (∀ g, S0 g → ¬ S1 g) := by
  obtain ⟨_, _, U0, T0, rfl, ⟨rfl, -⟩, ⟨_, _, U1, T1, rfl, ⟨v0, rfl, h0⟩, ⟨v1, rfl, h1⟩, a1, d1⟩, a0, d0⟩ := h
  exact ⟨v0, v1, U1, T1, rfl, h0, h1, (fun g hg => (d0 g (a1 g hg).1)), (fun g hg => (d0 g (d1 g hg))), (fun g hg hg' => (a1 g hg).2 hg')⟩
theorem of_own_Record {w : World} {S : Nat → Prop} {x : Record} {v0 v1 : Value} {S0 S1 : Nat → Prop} (h0 : SlOwn intR 3 w S0 v0 x.Nums) (h1 : SlOwn strR 9 w S1 v1 x.Texts) (s0 : ∀ g, S0 g → S g) (s1 : ∀ g, S1 g → S g) (ds : ∀ g, S0 g → ¬ S1 g) : RecordR.Own w S [.int .i64 x.Kind, v0, v1] x := ⟨[_], _, fun _ => False, S, rfl, ⟨rfl, trivial⟩, ⟨[_], _, S0, S1, rfl, ⟨_, rfl, h0⟩, ⟨_, rfl, h1⟩, (fun g hg => ⟨s0 g hg, ds g hg⟩), s1⟩, (fun g hg => hg.elim), (fun g hg => hg)⟩
theorem sz_Record (x : Record) : RecordR.sz x = szList intR x.Nums + szList strR x.Texts := by simp [RecordR, Rep.as, Rep.pair, Rep.sl, intR, Rep.flat]
set_option maxHeartbeats 800000 in
theorem sz2_Record (cs : List Value) (x : Record) (left : Int) (w : World) (h : RecordR.Rd w w.heap.size cs x) (h1 : -1 ≤ left) (h2 : left ≤ 1048576) :
    Calls Try.prog 72 #[.agg cs.toArray, .int .i64 left] w fun e w' => e = .returned (.int .i64 (leftOf left (RecordR.sz x))) ∧ Below w.heap.size w w' := by
  obtain ⟨v0, v1, rfl, q0, q1⟩ := rd_Record h
  rw [sz_Record]
  obtain ⟨A0, c0, rfl⟩ := q0.form
  obtain ⟨A1, c1, rfl⟩ := q1.form
  go_enter Try.func72, Try.ntmps72
  go_wp2_with fail
  refine (sz2_IntS _ _ _ _ (q0.keep (by (repeat (first | (with_reducible exact Below.refl _ _) | (with_reducible assumption) | ((with_reducible refine Below.setCell ?_ ?_ _); rotate_left; focus (first | omega | (simp; done) | (simp; omega))) | ((with_reducible refine Below.alloc ?_ ?_ _); rotate_left; focus (first | omega | (simp; done) | (simp; omega))) | (with_reducible refine Below.drew ?_) | (with_reducible refine below_drewN ?_ _) | (refine Below.trans ?_ (Below.mono (by with_reducible assumption) (by (first | omega | (simp; done) | (simp; omega)))))))) (by first | omega | (simp; done) | (simp; omega))) h1 h2).mono ?_
  rintro e w1 ⟨rfl, hb1⟩
  have hz1 := hb1.size; try simp at hz1
  obtain ⟨hc10, hf10⟩ := box hb1 (w.heap.size) (by first | omega | (simp; done) | (simp; omega))
  by_cases n0 : leftOf left (szList intR x.Nums) < 0
  · go_wp2
    go_ret
    exact ⟨ret_int (by exact (leftOf_neg n0).symm), by (repeat (first | (with_reducible exact Below.refl _ _) | (with_reducible assumption) | ((with_reducible refine Below.setCell ?_ ?_ _); rotate_left; focus (first | omega | (simp; done) | (simp; omega))) | ((with_reducible refine Below.alloc ?_ ?_ _); rotate_left; focus (first | omega | (simp; done) | (simp; omega))) | (with_reducible refine Below.drew ?_) | (with_reducible refine below_drewN ?_ _) | (refine Below.trans ?_ (Below.mono (by with_reducible assumption) (by (first | omega | (simp; done) | (simp; omega)))))))⟩
  have g0 := Int.not_lt.1 n0
  go_wp2_with fail
  refine (sz2_StringS _ _ _ _ (q1.keep (by (repeat (first | (with_reducible exact Below.refl _ _) | (with_reducible assumption) | ((with_reducible refine Below.setCell ?_ ?_ _); rotate_left; focus (first | omega | (simp; done) | (simp; omega))) | ((with_reducible refine Below.alloc ?_ ?_ _); rotate_left; focus (first | omega | (simp; done) | (simp; omega))) | (with_reducible refine Below.drew ?_) | (with_reducible refine below_drewN ?_ _) | (refine Below.trans ?_ (Below.mono (by with_reducible assumption) (by (first | omega | (simp; done) | (simp; omega)))))))) (by first | omega | (simp; done) | (simp; omega))) (leftOf_bd h2).1 (leftOf_bd h2).2).mono ?_
  rintro e w2 ⟨rfl, hb2⟩
  have hz2 := hb2.size; try simp at hz2
  obtain ⟨hc20, hf20⟩ := box hb2 (w.heap.size) (by first | omega | (simp; done) | (simp; omega))
  rw [leftOf_add g0]
  by_cases n1 : leftOf left (szList intR x.Nums + szList strR x.Texts) < 0
  · go_wp2
    go_ret
    exact ⟨ret_int (by rw [← Nat.add_zero (szList intR x.Nums + szList strR x.Texts)]; exact (leftOf_neg n1).symm), by (repeat (first | (with_reducible exact Below.refl _ _) | (with_reducible assumption) | ((with_reducible refine Below.setCell ?_ ?_ _); rotate_left; focus (first | omega | (simp; done) | (simp; omega))) | ((with_reducible refine Below.alloc ?_ ?_ _); rotate_left; focus (first | omega | (simp; done) | (simp; omega))) | (with_reducible refine Below.drew ?_) | (with_reducible refine below_drewN ?_ _) | (refine Below.trans ?_ (Below.mono (by with_reducible assumption) (by (first | omega | (simp; done) | (simp; omega)))))))⟩
  have g1 := Int.not_lt.1 n1
  go_wp2
  go_ret
  exact ⟨rfl, by (repeat (first | (with_reducible exact Below.refl _ _) | (with_reducible assumption) | ((with_reducible refine Below.setCell ?_ ?_ _); rotate_left; focus (first | omega | (simp; done) | (simp; omega))) | ((with_reducible refine Below.alloc ?_ ?_ _); rotate_left; focus (first | omega | (simp; done) | (simp; omega))) | (with_reducible refine Below.drew ?_) | (with_reducible refine below_drewN ?_ _) | (refine Below.trans ?_ (Below.mono (by with_reducible assumption) (by (first | omega | (simp; done) | (simp; omega)))))))⟩
set_option maxHeartbeats 800000 in
theorem to2_Record (cs : List Value) (x : Record) (w : World) (h : RecordR.Rd w w.heap.size cs x) (hm : RecordR.sz x ≤ 1048576) :
    Calls Try.prog 75 #[.agg cs.toArray] w fun e w' => ∃ cs', e = .returned (.agg cs'.toArray) ∧ RecordR.Own w' (InR w.heap.size w'.heap.size) cs' x ∧ Below w.heap.size w w' := by
  obtain ⟨v0, v1, rfl, q0, q1⟩ := rd_Record h
  rw [sz_Record] at hm
  obtain ⟨A0, c0, rfl⟩ := q0.form
  obtain ⟨A1, c1, rfl⟩ := q1.form
  go_enter Try.func75, Try.ntmps75
  go_wp2_with fail
  refine (to2_IntS _ _ _ (q0.keep (by (repeat (first | (with_reducible exact Below.refl _ _) | (with_reducible assumption) | ((with_reducible refine Below.setCell ?_ ?_ _); rotate_left; focus (first | omega | (simp; done) | (simp; omega))) | ((with_reducible refine Below.alloc ?_ ?_ _); rotate_left; focus (first | omega | (simp; done) | (simp; omega))) | (with_reducible refine Below.drew ?_) | (with_reducible refine below_drewN ?_ _) | (refine Below.trans ?_ (Below.mono (by with_reducible assumption) (by (first | omega | (simp; done) | (simp; omega)))))))) (by first | omega | (simp; done) | (simp; omega))) (by omega)).mono ?_
  rintro e w1 ⟨_, rfl, ho0, hb1⟩
  obtain ⟨D0, d0, rfl⟩ := ho0.form
  have hz1 := hb1.size; try simp at hz1
  obtain ⟨hc10, hf10⟩ := box hb1 (w.heap.size) (by first | omega | (simp; done) | (simp; omega))
  obtain ⟨hc11, hf11⟩ := box hb1 (w.heap.size + 1) (by first | omega | (simp; done) | (simp; omega))
  obtain ⟨hc12, hf12⟩ := box hb1 (w.heap.size + 1 + 1) (by first | omega | (simp; done) | (simp; omega))
  go_wp2_with fail
  refine (to2_StringS _ _ _ (q1.keep (by (repeat (first | (with_reducible exact Below.refl _ _) | (with_reducible assumption) | ((with_reducible refine Below.setCell ?_ ?_ _); rotate_left; focus (first | omega | (simp; done) | (simp; omega))) | ((with_reducible refine Below.alloc ?_ ?_ _); rotate_left; focus (first | omega | (simp; done) | (simp; omega))) | (with_reducible refine Below.drew ?_) | (with_reducible refine below_drewN ?_ _) | (refine Below.trans ?_ (Below.mono (by with_reducible assumption) (by (first | omega | (simp; done) | (simp; omega)))))))) (by first | omega | (simp; done) | (simp; omega))) (by omega)).mono ?_
  rintro e w2 ⟨_, rfl, ho1, hb2⟩
  obtain ⟨D1, d1, rfl⟩ := ho1.form
  have hz2 := hb2.size; try simp at hz2
  obtain ⟨hc20, hf20⟩ := box hb2 (w.heap.size) (by first | omega | (simp; done) | (simp; omega))
  obtain ⟨hc21, hf21⟩ := box hb2 (w.heap.size + 1) (by first | omega | (simp; done) | (simp; omega))
  obtain ⟨hc22, hf22⟩ := box hb2 (w.heap.size + 1 + 1) (by first | omega | (simp; done) | (simp; omega))
  go_wp2
  refine bodyPost_ret (v := .agg #[.int .i64 x.Kind, .slice D0 x.Nums.length d0, .slice D1 x.Texts.length d1]) (by simp [results, Try.results75, go_sem, hc10, hf10, hc11, hf11, hc12, hf12, hc20, hf20, hc21, hf21, hc22, hf22]) rfl ⟨[.int .i64 x.Kind, .slice D0 x.Nums.length d0, .slice D1 x.Texts.length d1], rfl, ?_, by (repeat (first | (with_reducible exact Below.refl _ _) | (with_reducible assumption) | ((with_reducible refine Below.setCell ?_ ?_ _); rotate_left; focus (first | omega | (simp; done) | (simp; omega))) | ((with_reducible refine Below.alloc ?_ ?_ _); rotate_left; focus (first | omega | (simp; done) | (simp; omega))) | (with_reducible refine Below.drew ?_) | (with_reducible refine below_drewN ?_ _) | (refine Below.trans ?_ (Below.mono (by with_reducible assumption) (by (first | omega | (simp; done) | (simp; omega)))))))⟩
  refine of_own_Record (SlOwn.off ho0 (by (repeat (first | (with_reducible exact Out.refl _ _) | (with_reducible assumption) | ((with_reducible refine Out.setCell ?_ ?_ _); rotate_left; focus (first | (refine Or.inl ?_; (first | omega | (simp; done) | (simp; omega))) | (refine Or.inr ?_; (first | omega | (simp; done) | (simp; omega))))) | (with_reducible refine Out.alloc ?_ _) | (with_reducible refine Out.drew ?_) | (with_reducible refine Out.drewN ?_ _) | (refine Out.step ?_ (by with_reducible assumption)))))) (SlOwn.off ho1 (by (repeat (first | (with_reducible exact Out.refl _ _) | (with_reducible assumption) | ((with_reducible refine Out.setCell ?_ ?_ _); rotate_left; focus (first | (refine Or.inl ?_; (first | omega | (simp; done) | (simp; omega))) | (refine Or.inr ?_; (first | omega | (simp; done) | (simp; omega))))) | (with_reducible refine Out.alloc ?_ _) | (with_reducible refine Out.drew ?_) | (with_reducible refine Out.drewN ?_ _) | (refine Out.step ?_ (by with_reducible assumption)))))) (inR_mono (by first | omega | (simp; done) | (simp; omega)) (by first | omega | (simp; done) | (simp; omega))) (inR_mono (by first | omega | (simp; done) | (simp; omega)) (by first | omega | (simp; done) | (simp; omega))) (inR_apart (.inl (by first | omega | (simp; done) | (simp; omega))))
set_option maxHeartbeats 1600000 in
theorem eq2_Record (cs cs' : List Value) (x y : Record) (w : World) (h : RecordR.Rd w w.heap.size cs x) (h' : RecordR.Rd w w.heap.size cs' y) (m : RecordR.sz x ≤ 140737488351232) (m' : RecordR.sz y ≤ 140737488351232) :
    Calls Try.prog 67 #[.agg cs.toArray, .agg cs'.toArray] w fun e w' => e = .returned (.bool (decide (x = y))) ∧ Below w.heap.size w w' := by
  obtain ⟨v0, v1, rfl, q0, q1⟩ := rd_Record h
  obtain ⟨A0, c0, rfl⟩ := q0.form
  obtain ⟨A1, c1, rfl⟩ := q1.form
  obtain ⟨v0', v1', rfl, q0', q1'⟩ := rd_Record h'
  obtain ⟨A0', c0', rfl⟩ := q0'.form
  obtain ⟨A1', c1', rfl⟩ := q1'.form
  rw [sz_Record] at m m'
  have m0 : szList intR x.Nums ≤ 140737488351232 := by omega
  have m0' : szList intR y.Nums ≤ 140737488351232 := by omega
  have m1 : szList strR x.Texts ≤ 140737488351232 := by omega
  have m1' : szList strR y.Texts ≤ 140737488351232 := by omega
  clear m m'
  have HX : Hid (∀ b : Bool, b = decide (x.Kind = y.Kind ∧ x.Nums = y.Nums ∧ x.Texts = y.Texts) → b = decide (x = y)) := Lib.hid (by intro b hb; rw [hb]; cases x; cases y; simp)
  go_enter Try.func67, Try.ntmps67
  go_wp2_with (first
  | (go_at_call 91; refine (eq2_IntS _ _ _ _ _ (by first | exact q0.keep (by (repeat (first | (with_reducible exact Below.refl _ _) | (with_reducible assumption) | ((with_reducible refine Below.setCell ?_ ?_ _); rotate_left; focus (first | omega | (simp; done) | (simp; omega))) | ((with_reducible refine Below.alloc ?_ ?_ _); rotate_left; focus (first | omega | (simp; done) | (simp; omega))) | (with_reducible refine Below.drew ?_) | (with_reducible refine below_drewN ?_ _) | (refine Below.trans ?_ (Below.mono (by with_reducible assumption) (by (first | omega | (simp; done) | (simp; omega)))))))) (by first | omega | (simp; done) | (simp; omega))) (by first | exact q0'.keep (by (repeat (first | (with_reducible exact Below.refl _ _) | (with_reducible assumption) | ((with_reducible refine Below.setCell ?_ ?_ _); rotate_left; focus (first | omega | (simp; done) | (simp; omega))) | ((with_reducible refine Below.alloc ?_ ?_ _); rotate_left; focus (first | omega | (simp; done) | (simp; omega))) | (with_reducible refine Below.drew ?_) | (with_reducible refine below_drewN ?_ _) | (refine Below.trans ?_ (Below.mono (by with_reducible assumption) (by (first | omega | (simp; done) | (simp; omega)))))))) (by first | omega | (simp; done) | (simp; omega))) (by assumption) (by assumption)).mono ?_; rintro e w1 ⟨rfl, hb1⟩; have hz1 := hb1.size; (try simp at hz1); obtain ⟨hc10, hf10⟩ := box hb1 (w.heap.size) (by first | omega | (simp; done) | (simp; omega)); obtain ⟨hc11, hf11⟩ := box hb1 (w.heap.size + 1) (by first | omega | (simp; done) | (simp; omega)))
  | (go_at_call 92; refine (eq2_StringS _ _ _ _ _ (by first | exact q1.keep (by (repeat (first | (with_reducible exact Below.refl _ _) | (with_reducible assumption) | ((with_reducible refine Below.setCell ?_ ?_ _); rotate_left; focus (first | omega | (simp; done) | (simp; omega))) | ((with_reducible refine Below.alloc ?_ ?_ _); rotate_left; focus (first | omega | (simp; done) | (simp; omega))) | (with_reducible refine Below.drew ?_) | (with_reducible refine below_drewN ?_ _) | (refine Below.trans ?_ (Below.mono (by with_reducible assumption) (by (first | omega | (simp; done) | (simp; omega)))))))) (by first | omega | (simp; done) | (simp; omega))) (by first | exact q1'.keep (by (repeat (first | (with_reducible exact Below.refl _ _) | (with_reducible assumption) | ((with_reducible refine Below.setCell ?_ ?_ _); rotate_left; focus (first | omega | (simp; done) | (simp; omega))) | ((with_reducible refine Below.alloc ?_ ?_ _); rotate_left; focus (first | omega | (simp; done) | (simp; omega))) | (with_reducible refine Below.drew ?_) | (with_reducible refine below_drewN ?_ _) | (refine Below.trans ?_ (Below.mono (by with_reducible assumption) (by (first | omega | (simp; done) | (simp; omega)))))))) (by first | omega | (simp; done) | (simp; omega))) (by assumption) (by assumption)).mono ?_; rintro e w1 ⟨rfl, hb1⟩; have hz1 := hb1.size; (try simp at hz1); obtain ⟨hc10, hf10⟩ := box hb1 (w.heap.size) (by first | omega | (simp; done) | (simp; omega)); obtain ⟨hc11, hf11⟩ := box hb1 (w.heap.size + 1) (by first | omega | (simp; done) | (simp; omega))))
  all_goals (go_ret; exact ⟨ret_bool (HX.out _ (by simp_all)), by (repeat (first | (with_reducible exact Below.refl _ _) | (with_reducible assumption) | ((with_reducible refine Below.setCell ?_ ?_ _); rotate_left; focus (first | omega | (simp; done) | (simp; omega))) | ((with_reducible refine Below.alloc ?_ ?_ _); rotate_left; focus (first | omega | (simp; done) | (simp; omega))) | (with_reducible refine Below.drew ?_) | (with_reducible refine below_drewN ?_ _) | (refine Below.trans ?_ (Below.mono (by with_reducible assumption) (by (first | omega | (simp; done) | (simp; omega)))))))⟩)
def Record.markTop (k : Nat) (x : Record) : Record := { x with Nums := mkList intR (k) x.Nums, Texts := mkList strR (k + cntList intR x.Nums) x.Texts }
def Record.cntTop (x : Record) : Nat := cntList intR x.Nums + cntList strR x.Texts
theorem cnt_bd_Record (x : Record) : x.cntTop ≤ 16 * RecordR.sz x := by
  have h0 := cnt_bd_IntS x.Nums
  have h1 := cnt_bd_StringS x.Texts
  rw [sz_Record]
  show cntList intR x.Nums + cntList strR x.Texts ≤ _
  omega
end Go.Proofs.Ytgaenfkjobkmjaa

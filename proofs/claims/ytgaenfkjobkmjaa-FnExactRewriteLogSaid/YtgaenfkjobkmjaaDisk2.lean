/- Contracts of the helpers on Disk (printed by wip/gen/gen2.py). -/
import Derived.Test.YtgaenfkjobkmjaaByteS2
set_option linter.unusedSimpArgs false
set_option linter.unusedVariables false
set_option maxRecDepth 20000
namespace Go.Proofs.Ytgaenfkjobkmjaa
open Go.RowKit
structure Disk where
  Safe : List UInt8
  Loose : List UInt8
  deriving DecidableEq
def DiskR : Rep Disk := (Rep.pair (byteR.sl 5) (byteR.sl 5)).as (fun x => (x.Safe, x.Loose)) (fun p => ⟨p.1, p.2⟩)
theorem rd_Disk {w : World} {B : Nat} {cs : List Value} {x : Disk} (h : DiskR.Rd w B cs x) : ∃ v0 v1, cs = [v0, v1] ∧ SlRd byteR w B v0 x.Safe ∧ SlRd byteR w B v1 x.Loose := by
  obtain ⟨_, _, rfl, ⟨v0, rfl, h0⟩, ⟨v1, rfl, h1⟩⟩ := h
  exact ⟨v0, v1, rfl, h0, h1⟩
theorem of_rd_Disk {w : World} {B : Nat} {x : Disk} {v0 v1 : Value} (h0 : SlRd byteR w B v0 x.Safe) (h1 : SlRd byteR w B v1 x.Loose) : DiskR.Rd w B [v0, v1] x := ⟨[_], _, rfl, ⟨_, rfl, h0⟩, ⟨_, rfl, h1⟩⟩
theorem own_Disk {w : World} {S : Nat → Prop} {cs : List Value} {x : Disk} (h : DiskR.Own w S cs x) : ∃ v0 v1, ∃ S0 S1 : Nat → Prop, cs = [v0, v1] ∧ SlOwn byteR 5 w S0 v0 x.Safe ∧ SlOwn byteR 5 w S1 v1 x.Loose ∧ (∀ g, S0 g → S g) ∧ (∀ g, S1 g → S g) ∧ (∀ g, S0 g → ¬ S1 g) := by
  obtain ⟨_, _, U0, T0, rfl, ⟨v0, rfl, h0⟩, ⟨v1, rfl, h1⟩, a0, d0⟩ := h
  exact ⟨v0, v1, U0, T0, rfl, h0, h1, (fun g hg => (a0 g hg).1), (fun g hg => (d0 g hg)), (fun g hg hg' => (a0 g hg).2 hg')⟩
theorem of_own_Disk {w : World} {S : Nat → Prop} {x : Disk} {v0 v1 : Value} {S0 S1 : Nat → Prop} (h0 : SlOwn byteR 5 w S0 v0 x.Safe) (h1 : SlOwn byteR 5 w S1 v1 x.Loose) (s0 : ∀ g, S0 g → S g) (s1 : ∀ g, S1 g → S g) (ds : ∀ g, S0 g → ¬ S1 g) : DiskR.Own w S [v0, v1] x := ⟨[_], _, S0, S1, rfl, ⟨_, rfl, h0⟩, ⟨_, rfl, h1⟩, (fun g hg => ⟨s0 g hg, ds g hg⟩), s1⟩
theorem sz_Disk (x : Disk) : DiskR.sz x = szList byteR x.Safe + szList byteR x.Loose := by simp [DiskR, Rep.as, Rep.pair, Rep.sl, intR, Rep.flat]
set_option maxHeartbeats 800000 in
theorem sz2_Disk (cs : List Value) (x : Disk) (left : Int) (w : World) (h : DiskR.Rd w w.heap.size cs x) (h1 : -1 ≤ left) (h2 : left ≤ 1048576) :
    Calls Try.prog 20 #[.agg cs.toArray, .int .i64 left] w fun e w' => e = .returned (.int .i64 (leftOf left (DiskR.sz x))) ∧ Below w.heap.size w w' := by
  obtain ⟨v0, v1, rfl, q0, q1⟩ := rd_Disk h
  rw [sz_Disk]
  obtain ⟨A0, c0, rfl⟩ := q0.form
  obtain ⟨A1, c1, rfl⟩ := q1.form
  go_enter Try.func20, Try.ntmps20
  go_wp2_with fail
  refine (sz2_ByteS _ _ _ _ (q0.keep (by (repeat (first | (with_reducible exact Below.refl _ _) | (with_reducible assumption) | ((with_reducible refine Below.setCell ?_ ?_ _); rotate_left; focus (first | omega | (simp; done) | (simp; omega))) | ((with_reducible refine Below.alloc ?_ ?_ _); rotate_left; focus (first | omega | (simp; done) | (simp; omega))) | (with_reducible refine Below.drew ?_) | (with_reducible refine below_drewN ?_ _) | (refine Below.trans ?_ (Below.mono (by with_reducible assumption) (by (first | omega | (simp; done) | (simp; omega)))))))) (by first | omega | (simp; done) | (simp; omega))) h1 h2).mono ?_
  rintro e w1 ⟨rfl, hb1⟩
  have hz1 := hb1.size; try simp at hz1
  obtain ⟨hc10, hf10⟩ := box hb1 (w.heap.size) (by first | omega | (simp; done) | (simp; omega))
  by_cases n0 : leftOf left (szList byteR x.Safe) < 0
  · go_wp2
    go_ret
    exact ⟨ret_int (by exact (leftOf_neg n0).symm), by (repeat (first | (with_reducible exact Below.refl _ _) | (with_reducible assumption) | ((with_reducible refine Below.setCell ?_ ?_ _); rotate_left; focus (first | omega | (simp; done) | (simp; omega))) | ((with_reducible refine Below.alloc ?_ ?_ _); rotate_left; focus (first | omega | (simp; done) | (simp; omega))) | (with_reducible refine Below.drew ?_) | (with_reducible refine below_drewN ?_ _) | (refine Below.trans ?_ (Below.mono (by with_reducible assumption) (by (first | omega | (simp; done) | (simp; omega)))))))⟩
  have g0 := Int.not_lt.1 n0
  go_wp2_with fail
  refine (sz2_ByteS _ _ _ _ (q1.keep (by (repeat (first | (with_reducible exact Below.refl _ _) | (with_reducible assumption) | ((with_reducible refine Below.setCell ?_ ?_ _); rotate_left; focus (first | omega | (simp; done) | (simp; omega))) | ((with_reducible refine Below.alloc ?_ ?_ _); rotate_left; focus (first | omega | (simp; done) | (simp; omega))) | (with_reducible refine Below.drew ?_) | (with_reducible refine below_drewN ?_ _) | (refine Below.trans ?_ (Below.mono (by with_reducible assumption) (by (first | omega | (simp; done) | (simp; omega)))))))) (by first | omega | (simp; done) | (simp; omega))) (leftOf_bd h2).1 (leftOf_bd h2).2).mono ?_
  rintro e w2 ⟨rfl, hb2⟩
  have hz2 := hb2.size; try simp at hz2
  obtain ⟨hc20, hf20⟩ := box hb2 (w.heap.size) (by first | omega | (simp; done) | (simp; omega))
  rw [leftOf_add g0]
  by_cases n1 : leftOf left (szList byteR x.Safe + szList byteR x.Loose) < 0
  · go_wp2
    go_ret
    exact ⟨ret_int (by rw [← Nat.add_zero (szList byteR x.Safe + szList byteR x.Loose)]; exact (leftOf_neg n1).symm), by (repeat (first | (with_reducible exact Below.refl _ _) | (with_reducible assumption) | ((with_reducible refine Below.setCell ?_ ?_ _); rotate_left; focus (first | omega | (simp; done) | (simp; omega))) | ((with_reducible refine Below.alloc ?_ ?_ _); rotate_left; focus (first | omega | (simp; done) | (simp; omega))) | (with_reducible refine Below.drew ?_) | (with_reducible refine below_drewN ?_ _) | (refine Below.trans ?_ (Below.mono (by with_reducible assumption) (by (first | omega | (simp; done) | (simp; omega)))))))⟩
  have g1 := Int.not_lt.1 n1
  go_wp2
  go_ret
  exact ⟨rfl, by (repeat (first | (with_reducible exact Below.refl _ _) | (with_reducible assumption) | ((with_reducible refine Below.setCell ?_ ?_ _); rotate_left; focus (first | omega | (simp; done) | (simp; omega))) | ((with_reducible refine Below.alloc ?_ ?_ _); rotate_left; focus (first | omega | (simp; done) | (simp; omega))) | (with_reducible refine Below.drew ?_) | (with_reducible refine below_drewN ?_ _) | (refine Below.trans ?_ (Below.mono (by with_reducible assumption) (by (first | omega | (simp; done) | (simp; omega)))))))⟩
set_option maxHeartbeats 800000 in
theorem to2_Disk (cs : List Value) (x : Disk) (w : World) (h : DiskR.Rd w w.heap.size cs x) (hm : DiskR.sz x ≤ 1048576) :
    Calls Try.prog 22 #[.agg cs.toArray] w fun e w' => ∃ cs', e = .returned (.agg cs'.toArray) ∧ DiskR.Own w' (InR w.heap.size w'.heap.size) cs' x ∧ Below w.heap.size w w' := by
  obtain ⟨v0, v1, rfl, q0, q1⟩ := rd_Disk h
  rw [sz_Disk] at hm
  obtain ⟨A0, c0, rfl⟩ := q0.form
  obtain ⟨A1, c1, rfl⟩ := q1.form
  go_enter Try.func22, Try.ntmps22
  go_wp2_with fail
  refine (to2_ByteS _ _ _ (q0.keep (by (repeat (first | (with_reducible exact Below.refl _ _) | (with_reducible assumption) | ((with_reducible refine Below.setCell ?_ ?_ _); rotate_left; focus (first | omega | (simp; done) | (simp; omega))) | ((with_reducible refine Below.alloc ?_ ?_ _); rotate_left; focus (first | omega | (simp; done) | (simp; omega))) | (with_reducible refine Below.drew ?_) | (with_reducible refine below_drewN ?_ _) | (refine Below.trans ?_ (Below.mono (by with_reducible assumption) (by (first | omega | (simp; done) | (simp; omega)))))))) (by first | omega | (simp; done) | (simp; omega))) (by omega)).mono ?_
  rintro e w1 ⟨_, rfl, ho0, hb1⟩
  obtain ⟨D0, d0, rfl⟩ := ho0.form
  have hz1 := hb1.size; try simp at hz1
  obtain ⟨hc10, hf10⟩ := box hb1 (w.heap.size) (by first | omega | (simp; done) | (simp; omega))
  obtain ⟨hc11, hf11⟩ := box hb1 (w.heap.size + 1) (by first | omega | (simp; done) | (simp; omega))
  obtain ⟨hc12, hf12⟩ := box hb1 (w.heap.size + 1 + 1) (by first | omega | (simp; done) | (simp; omega))
  go_wp2_with fail
  refine (to2_ByteS _ _ _ (q1.keep (by (repeat (first | (with_reducible exact Below.refl _ _) | (with_reducible assumption) | ((with_reducible refine Below.setCell ?_ ?_ _); rotate_left; focus (first | omega | (simp; done) | (simp; omega))) | ((with_reducible refine Below.alloc ?_ ?_ _); rotate_left; focus (first | omega | (simp; done) | (simp; omega))) | (with_reducible refine Below.drew ?_) | (with_reducible refine below_drewN ?_ _) | (refine Below.trans ?_ (Below.mono (by with_reducible assumption) (by (first | omega | (simp; done) | (simp; omega)))))))) (by first | omega | (simp; done) | (simp; omega))) (by omega)).mono ?_
  rintro e w2 ⟨_, rfl, ho1, hb2⟩
  obtain ⟨D1, d1, rfl⟩ := ho1.form
  have hz2 := hb2.size; try simp at hz2
  obtain ⟨hc20, hf20⟩ := box hb2 (w.heap.size) (by first | omega | (simp; done) | (simp; omega))
  obtain ⟨hc21, hf21⟩ := box hb2 (w.heap.size + 1) (by first | omega | (simp; done) | (simp; omega))
  obtain ⟨hc22, hf22⟩ := box hb2 (w.heap.size + 1 + 1) (by first | omega | (simp; done) | (simp; omega))
  go_wp2
  refine bodyPost_ret (v := .agg #[.slice D0 x.Safe.length d0, .slice D1 x.Loose.length d1]) (by simp [results, Try.results22, go_sem, hc10, hf10, hc11, hf11, hc12, hf12, hc20, hf20, hc21, hf21, hc22, hf22]) rfl ⟨[.slice D0 x.Safe.length d0, .slice D1 x.Loose.length d1], rfl, ?_, by (repeat (first | (with_reducible exact Below.refl _ _) | (with_reducible assumption) | ((with_reducible refine Below.setCell ?_ ?_ _); rotate_left; focus (first | omega | (simp; done) | (simp; omega))) | ((with_reducible refine Below.alloc ?_ ?_ _); rotate_left; focus (first | omega | (simp; done) | (simp; omega))) | (with_reducible refine Below.drew ?_) | (with_reducible refine below_drewN ?_ _) | (refine Below.trans ?_ (Below.mono (by with_reducible assumption) (by (first | omega | (simp; done) | (simp; omega)))))))⟩
  refine of_own_Disk (SlOwn.off ho0 (by (repeat (first | (with_reducible exact Out.refl _ _) | (with_reducible assumption) | ((with_reducible refine Out.setCell ?_ ?_ _); rotate_left; focus (first | (refine Or.inl ?_; (first | omega | (simp; done) | (simp; omega))) | (refine Or.inr ?_; (first | omega | (simp; done) | (simp; omega))))) | (with_reducible refine Out.alloc ?_ _) | (with_reducible refine Out.drew ?_) | (with_reducible refine Out.drewN ?_ _) | (refine Out.step ?_ (by with_reducible assumption)))))) (SlOwn.off ho1 (by (repeat (first | (with_reducible exact Out.refl _ _) | (with_reducible assumption) | ((with_reducible refine Out.setCell ?_ ?_ _); rotate_left; focus (first | (refine Or.inl ?_; (first | omega | (simp; done) | (simp; omega))) | (refine Or.inr ?_; (first | omega | (simp; done) | (simp; omega))))) | (with_reducible refine Out.alloc ?_ _) | (with_reducible refine Out.drew ?_) | (with_reducible refine Out.drewN ?_ _) | (refine Out.step ?_ (by with_reducible assumption)))))) (inR_mono (by first | omega | (simp; done) | (simp; omega)) (by first | omega | (simp; done) | (simp; omega))) (inR_mono (by first | omega | (simp; done) | (simp; omega)) (by first | omega | (simp; done) | (simp; omega))) (inR_apart (.inl (by first | omega | (simp; done) | (simp; omega))))
set_option maxHeartbeats 1600000 in
theorem eq2_Disk (cs cs' : List Value) (x y : Disk) (w : World) (h : DiskR.Rd w w.heap.size cs x) (h' : DiskR.Rd w w.heap.size cs' y) (m : DiskR.sz x ≤ 140737488351232) (m' : DiskR.sz y ≤ 140737488351232) :
    Calls Try.prog 24 #[.agg cs.toArray, .agg cs'.toArray] w fun e w' => e = .returned (.bool (decide (x = y))) ∧ Below w.heap.size w w' := by
  obtain ⟨v0, v1, rfl, q0, q1⟩ := rd_Disk h
  obtain ⟨A0, c0, rfl⟩ := q0.form
  obtain ⟨A1, c1, rfl⟩ := q1.form
  obtain ⟨v0', v1', rfl, q0', q1'⟩ := rd_Disk h'
  obtain ⟨A0', c0', rfl⟩ := q0'.form
  obtain ⟨A1', c1', rfl⟩ := q1'.form
  rw [sz_Disk] at m m'
  have m0 : szList byteR x.Safe ≤ 140737488351232 := by omega
  have m0' : szList byteR y.Safe ≤ 140737488351232 := by omega
  have m1 : szList byteR x.Loose ≤ 140737488351232 := by omega
  have m1' : szList byteR y.Loose ≤ 140737488351232 := by omega
  clear m m'
  have HX : Hid (∀ b : Bool, b = decide (x.Safe = y.Safe ∧ x.Loose = y.Loose) → b = decide (x = y)) := Lib.hid (by intro b hb; rw [hb]; cases x; cases y; simp)
  go_enter Try.func24, Try.ntmps24
  go_wp2_with (first
  | (go_at_call 28; refine (eq2_ByteS _ _ _ _ _ (by first | exact q0.keep (by (repeat (first | (with_reducible exact Below.refl _ _) | (with_reducible assumption) | ((with_reducible refine Below.setCell ?_ ?_ _); rotate_left; focus (first | omega | (simp; done) | (simp; omega))) | ((with_reducible refine Below.alloc ?_ ?_ _); rotate_left; focus (first | omega | (simp; done) | (simp; omega))) | (with_reducible refine Below.drew ?_) | (with_reducible refine below_drewN ?_ _) | (refine Below.trans ?_ (Below.mono (by with_reducible assumption) (by (first | omega | (simp; done) | (simp; omega)))))))) (by first | omega | (simp; done) | (simp; omega)) | exact q1.keep (by (repeat (first | (with_reducible exact Below.refl _ _) | (with_reducible assumption) | ((with_reducible refine Below.setCell ?_ ?_ _); rotate_left; focus (first | omega | (simp; done) | (simp; omega))) | ((with_reducible refine Below.alloc ?_ ?_ _); rotate_left; focus (first | omega | (simp; done) | (simp; omega))) | (with_reducible refine Below.drew ?_) | (with_reducible refine below_drewN ?_ _) | (refine Below.trans ?_ (Below.mono (by with_reducible assumption) (by (first | omega | (simp; done) | (simp; omega)))))))) (by first | omega | (simp; done) | (simp; omega))) (by first | exact q0'.keep (by (repeat (first | (with_reducible exact Below.refl _ _) | (with_reducible assumption) | ((with_reducible refine Below.setCell ?_ ?_ _); rotate_left; focus (first | omega | (simp; done) | (simp; omega))) | ((with_reducible refine Below.alloc ?_ ?_ _); rotate_left; focus (first | omega | (simp; done) | (simp; omega))) | (with_reducible refine Below.drew ?_) | (with_reducible refine below_drewN ?_ _) | (refine Below.trans ?_ (Below.mono (by with_reducible assumption) (by (first | omega | (simp; done) | (simp; omega)))))))) (by first | omega | (simp; done) | (simp; omega)) | exact q1'.keep (by (repeat (first | (with_reducible exact Below.refl _ _) | (with_reducible assumption) | ((with_reducible refine Below.setCell ?_ ?_ _); rotate_left; focus (first | omega | (simp; done) | (simp; omega))) | ((with_reducible refine Below.alloc ?_ ?_ _); rotate_left; focus (first | omega | (simp; done) | (simp; omega))) | (with_reducible refine Below.drew ?_) | (with_reducible refine below_drewN ?_ _) | (refine Below.trans ?_ (Below.mono (by with_reducible assumption) (by (first | omega | (simp; done) | (simp; omega)))))))) (by first | omega | (simp; done) | (simp; omega))) (by assumption) (by assumption)).mono ?_; rintro e w1 ⟨rfl, hb1⟩; have hz1 := hb1.size; (try simp at hz1); obtain ⟨hc10, hf10⟩ := box hb1 (w.heap.size) (by first | omega | (simp; done) | (simp; omega)); obtain ⟨hc11, hf11⟩ := box hb1 (w.heap.size + 1) (by first | omega | (simp; done) | (simp; omega))))
  all_goals (go_ret; exact ⟨ret_bool (HX.out _ (by simp_all)), by (repeat (first | (with_reducible exact Below.refl _ _) | (with_reducible assumption) | ((with_reducible refine Below.setCell ?_ ?_ _); rotate_left; focus (first | omega | (simp; done) | (simp; omega))) | ((with_reducible refine Below.alloc ?_ ?_ _); rotate_left; focus (first | omega | (simp; done) | (simp; omega))) | (with_reducible refine Below.drew ?_) | (with_reducible refine below_drewN ?_ _) | (refine Below.trans ?_ (Below.mono (by with_reducible assumption) (by (first | omega | (simp; done) | (simp; omega)))))))⟩)
def Disk.markTop (k : Nat) (x : Disk) : Disk := { x with Safe := mkList byteR (k) x.Safe, Loose := mkList byteR (k + cntList byteR x.Safe) x.Loose }
def Disk.cntTop (x : Disk) : Nat := cntList byteR x.Safe + cntList byteR x.Loose
theorem cnt_bd_Disk (x : Disk) : x.cntTop ≤ 16 * DiskR.sz x := by
  have h0 := cnt_bd_ByteS x.Safe
  have h1 := cnt_bd_ByteS x.Loose
  rw [sz_Disk]
  show cntList byteR x.Safe + cntList byteR x.Loose ≤ _
  omega
set_option maxHeartbeats 800000 in
theorem mark2_Disk (cs : List Value) (x : Disk) (S : Nat → Prop) (k : Nat) (w : World) (h : DiskR.Own w S cs x) (m0 : szList byteR x.Safe ≤ 2097152) (m1 : szList byteR x.Loose ≤ 2097152) (hS : ∀ g, S g → g < w.heap.size) (h0 : 0 < k) (hk : k ≤ 100000000) :
    Calls Try.prog 36 #[.agg cs.toArray, .int .i64 k] w fun e w' => e = .returned (.int .i64 ((k + x.cntTop : Nat) : Int)) ∧ DiskR.Own w' S cs (x.markTop k) ∧ Out S w w' := by
  obtain ⟨v0, v1, S0, S1, rfl, q0, q1, s0, s1, ds⟩ := own_Disk h
  rw [show k + x.cntTop = k + cntList byteR x.Safe + cntList byteR x.Loose from (Nat.add_assoc _ _ _).symm]
  obtain ⟨A0, c0, rfl⟩ := q0.form
  obtain ⟨A1, c1, rfl⟩ := q1.form
  have hcb0 := cnt_bd_ByteS x.Safe
  have hcb1 := cnt_bd_ByteS x.Loose
  go_enter Try.func36, Try.ntmps36
  go_wp2_with fail
  replace q0 := q0.keep (w' := w.alloc (.cells #[.slice A0 x.Safe.length c0, .slice A1 x.Loose.length c1] 44)) (by (repeat (first | (with_reducible exact Below.refl _ _) | (with_reducible assumption) | ((with_reducible refine Below.setCell ?_ ?_ _); rotate_left; focus (first | omega | (simp; done) | (simp; omega))) | ((with_reducible refine Below.alloc ?_ ?_ _); rotate_left; focus (first | omega | (simp; done) | (simp; omega))) | (with_reducible refine Below.drew ?_) | (with_reducible refine below_drewN ?_ _) | (refine Below.trans ?_ (Below.mono (by with_reducible assumption) (by (first | omega | (simp; done) | (simp; omega))))))))
  replace q1 := q1.keep (w' := w.alloc (.cells #[.slice A0 x.Safe.length c0, .slice A1 x.Loose.length c1] 44)) (by (repeat (first | (with_reducible exact Below.refl _ _) | (with_reducible assumption) | ((with_reducible refine Below.setCell ?_ ?_ _); rotate_left; focus (first | omega | (simp; done) | (simp; omega))) | ((with_reducible refine Below.alloc ?_ ?_ _); rotate_left; focus (first | omega | (simp; done) | (simp; omega))) | (with_reducible refine Below.drew ?_) | (with_reducible refine below_drewN ?_ _) | (refine Below.trans ?_ (Below.mono (by with_reducible assumption) (by (first | omega | (simp; done) | (simp; omega))))))))
  have hO := Out.of_below (S := S) (w := w) (w' := w.alloc (.cells #[.slice A0 x.Safe.length c0, .slice A1 x.Loose.length c1] 44)) (by (repeat (first | (with_reducible exact Below.refl _ _) | (with_reducible assumption) | ((with_reducible refine Below.setCell ?_ ?_ _); rotate_left; focus (first | omega | (simp; done) | (simp; omega))) | ((with_reducible refine Below.alloc ?_ ?_ _); rotate_left; focus (first | omega | (simp; done) | (simp; omega))) | (with_reducible refine Below.drew ?_) | (with_reducible refine below_drewN ?_ _) | (refine Below.trans ?_ (Below.mono (by with_reducible assumption) (by (first | omega | (simp; done) | (simp; omega))))))))
  refine (Calls.cast (by push_cast; rfl) (mark2_ByteS _ _ _ (k) _ q0 (Nat.le_trans (Nat.le_add_right _ _) m0) (by omega))).mono ?_
  rintro e w1 ⟨rfl, r0, ho0⟩
  replace hO := hO.trans (ho0.wide s0)
  have BK0 := (Blk.new w 44 #[.slice A0 x.Safe.length c0, .slice A1 x.Loose.length c1]).out ho0 (fun hg => by have := hS _ (s0 _ hg); omega)
  have hcB0 := BK0.cell
  replace q1 := q1.out ho0 (fun g hg hg' => ds g hg' hg)
  go_wp2_with fail
  refine (Calls.cast (by push_cast; rfl) (mark2_ByteS _ _ _ (k + cntList byteR x.Safe) _ q1 (Nat.le_trans (Nat.le_add_right _ _) m1) (by omega))).mono ?_
  rintro e w2 ⟨rfl, r1, ho1⟩
  replace hO := hO.trans (ho1.wide s1)
  replace r0 := r0.out ho1 ds
  go_wp2
  go_ret
  refine ⟨by first | rfl | (push_cast; rfl), ?_, hO⟩
  exact of_own_Disk (x := x.markTop k) r0 r1 s0 s1 ds
set_option maxHeartbeats 800000 in
theorem held2_Disk (cs : List Value) (x : Disk) (k : Nat) (w : World) (h : DiskR.Rd w w.heap.size cs (x.markTop k)) (m0 : szList byteR x.Safe ≤ 2097152) (m1 : szList byteR x.Loose ≤ 2097152) (h0 : 0 < k) (hk : k ≤ 100000000) :
    Calls Try.prog 37 #[.agg cs.toArray, .int .i64 k] w fun e w' => e = .returned (.int .i64 ((k + x.cntTop : Nat) : Int)) ∧ Below w.heap.size w w' := by
  obtain ⟨v0, v1, rfl, q0, q1⟩ := rd_Disk h
  rw [show k + x.cntTop = k + cntList byteR x.Safe + cntList byteR x.Loose from (Nat.add_assoc _ _ _).symm]
  replace q0 : SlRd byteR w w.heap.size v0 (mkList byteR (k) x.Safe) := q0
  obtain ⟨A0, c0, rfl⟩ := q0.form
  have hcb0 := cnt_bd_ByteS x.Safe
  replace q1 : SlRd byteR w w.heap.size v1 (mkList byteR (k + cntList byteR x.Safe) x.Loose) := q1
  obtain ⟨A1, c1, rfl⟩ := q1.form
  have hcb1 := cnt_bd_ByteS x.Loose
  go_enter Try.func37, Try.ntmps37
  go_wp2_with fail
  refine (Calls.cast (by push_cast; rfl) (held2_ByteS _ _ (k) _ (q0.keep (by (repeat (first | (with_reducible exact Below.refl _ _) | (with_reducible assumption) | ((with_reducible refine Below.setCell ?_ ?_ _); rotate_left; focus (first | omega | (simp; done) | (simp; omega))) | ((with_reducible refine Below.alloc ?_ ?_ _); rotate_left; focus (first | omega | (simp; done) | (simp; omega))) | (with_reducible refine Below.drew ?_) | (with_reducible refine below_drewN ?_ _) | (refine Below.trans ?_ (Below.mono (by with_reducible assumption) (by (first | omega | (simp; done) | (simp; omega)))))))) (by first | omega | (simp; done) | (simp; omega))) (Nat.le_trans (Nat.le_add_right _ _) m0) (by omega))).mono ?_
  rintro e w1 ⟨rfl, hb1⟩
  have hz1 := hb1.size; try simp at hz1
  obtain ⟨hc10, hf10⟩ := box hb1 (w.heap.size) (by first | omega | (simp; done) | (simp; omega))
  have hpos0 : (0 : Int) ≤ ((k + cntList byteR x.Safe : Nat) : Int) := by omega
  push_cast at hpos0
  go_wp2_with fail
  refine (Calls.cast (by push_cast; rfl) (held2_ByteS _ _ (k + cntList byteR x.Safe) _ (q1.keep (by (repeat (first | (with_reducible exact Below.refl _ _) | (with_reducible assumption) | ((with_reducible refine Below.setCell ?_ ?_ _); rotate_left; focus (first | omega | (simp; done) | (simp; omega))) | ((with_reducible refine Below.alloc ?_ ?_ _); rotate_left; focus (first | omega | (simp; done) | (simp; omega))) | (with_reducible refine Below.drew ?_) | (with_reducible refine below_drewN ?_ _) | (refine Below.trans ?_ (Below.mono (by with_reducible assumption) (by (first | omega | (simp; done) | (simp; omega)))))))) (by first | omega | (simp; done) | (simp; omega))) (Nat.le_trans (Nat.le_add_right _ _) m1) (by omega))).mono ?_
  rintro e w2 ⟨rfl, hb2⟩
  have hz2 := hb2.size; try simp at hz2
  obtain ⟨hc20, hf20⟩ := box hb2 (w.heap.size) (by first | omega | (simp; done) | (simp; omega))
  have hpos1 : (0 : Int) ≤ ((k + cntList byteR x.Safe + cntList byteR x.Loose : Nat) : Int) := by omega
  push_cast at hpos1
  go_wp2
  go_ret
  exact ⟨by first | rfl | (push_cast; rfl), by (repeat (first | (with_reducible exact Below.refl _ _) | (with_reducible assumption) | ((with_reducible refine Below.setCell ?_ ?_ _); rotate_left; focus (first | omega | (simp; done) | (simp; omega))) | ((with_reducible refine Below.alloc ?_ ?_ _); rotate_left; focus (first | omega | (simp; done) | (simp; omega))) | (with_reducible refine Below.drew ?_) | (with_reducible refine below_drewN ?_ _) | (refine Below.trans ?_ (Below.mono (by with_reducible assumption) (by (first | omega | (simp; done) | (simp; omega)))))))⟩
end Go.Proofs.Ytgaenfkjobkmjaa

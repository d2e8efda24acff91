/- Contracts of the helpers on Box (printed by wip/gen/gen2.py). -/
import Derived.Test.YtlncnicpiadaaaaByteS2
set_option linter.unusedSimpArgs false
set_option linter.unusedVariables false
set_option maxRecDepth 20000
namespace Go.Proofs.Ytlncnicpiadaaaa
open Go.RowKit
structure Box where
  Nonce : Int
  Data : List UInt8
  Tag : Int
  deriving DecidableEq
def BoxR : Rep Box := (Rep.pair intR (Rep.pair (byteR.sl 5) intR)).as (fun x => (x.Nonce, x.Data, x.Tag)) (fun p => ⟨p.1, p.2.1, p.2.2⟩)
theorem rd_Box {w : World} {B : Nat} {cs : List Value} {x : Box} (h : BoxR.Rd w B cs x) : ∃ v0, cs = [.int .i64 x.Nonce, v0, .int .i64 x.Tag] ∧ SlRd byteR w B v0 x.Data := by
  obtain ⟨_, _, rfl, ⟨rfl, -⟩, ⟨_, _, rfl, ⟨v0, rfl, h0⟩, ⟨rfl, -⟩⟩⟩ := h
  exact ⟨v0, rfl, h0⟩
theorem of_rd_Box {w : World} {B : Nat} {x : Box} {v0 : Value} (h0 : SlRd byteR w B v0 x.Data) : BoxR.Rd w B [.int .i64 x.Nonce, v0, .int .i64 x.Tag] x := ⟨[_], _, rfl, ⟨rfl, trivial⟩, ⟨[_], _, rfl, ⟨_, rfl, h0⟩, ⟨rfl, trivial⟩⟩⟩
theorem own_Box {w : World} {S : Nat → Prop} {cs : List Value} {x : Box} (h : BoxR.Own w S cs x) : ∃ v0, ∃ S0 : Nat → Prop, cs = [.int .i64 x.Nonce, v0, .int .i64 x.Tag] ∧ SlOwn byteR 5 w S0 v0 x.Data ∧ (∀ g, S0 g → S g) := by
  obtain ⟨_, _, U0, T0, rfl, ⟨rfl, -⟩, ⟨_, _, U1, T1, rfl, ⟨v0, rfl, h0⟩, ⟨rfl, -⟩, a1, d1⟩, a0, d0⟩ := h
  exact ⟨v0, U1, rfl, h0, (fun g hg => (d0 g (a1 g hg).1))⟩
theorem of_own_Box {w : World} {S : Nat → Prop} {x : Box} {v0 : Value} {S0 : Nat → Prop} (h0 : SlOwn byteR 5 w S0 v0 x.Data) (s0 : ∀ g, S0 g → S g) : BoxR.Own w S [.int .i64 x.Nonce, v0, .int .i64 x.Tag] x := ⟨[_], _, fun _ => False, S, rfl, ⟨rfl, trivial⟩, ⟨[_], _, S0, fun _ => False, rfl, ⟨_, rfl, h0⟩, ⟨rfl, trivial⟩, (fun g hg => ⟨s0 g hg, fun h => h⟩), (fun g hg => hg.elim)⟩, (fun g hg => hg.elim), (fun g hg => hg)⟩
theorem sz_Box (x : Box) : BoxR.sz x = szList byteR x.Data := by simp [BoxR, Rep.as, Rep.pair, Rep.sl, intR, Rep.flat]
set_option maxHeartbeats 800000 in
theorem sz2_Box (cs : List Value) (x : Box) (left : Int) (w : World) (h : BoxR.Rd w w.heap.size cs x) (h1 : -1 ≤ left) (h2 : left ≤ 1048576) :
    Calls Try.prog 32 #[.agg cs.toArray, .int .i64 left] w fun e w' => e = .returned (.int .i64 (leftOf left (BoxR.sz x))) ∧ Below w.heap.size w w' := by
  obtain ⟨v0, rfl, q0⟩ := rd_Box h
  rw [sz_Box]
  obtain ⟨A0, c0, rfl⟩ := q0.form
  go_enter Try.func32, Try.ntmps32
  go_wp2_with fail
  refine (sz2_ByteS _ _ _ _ (q0.keep (by (repeat (first | (with_reducible exact Below.refl _ _) | (with_reducible assumption) | ((with_reducible refine Below.setCell ?_ ?_ _); rotate_left; focus (first | omega | (simp; done) | (simp; omega))) | ((with_reducible refine Below.alloc ?_ ?_ _); rotate_left; focus (first | omega | (simp; done) | (simp; omega))) | (with_reducible refine Below.drew ?_) | (with_reducible refine below_drewN ?_ _) | (refine Below.trans ?_ (Below.mono (by with_reducible assumption) (by (first | omega | (simp; done) | (simp; omega)))))))) (by first | omega | (simp; done) | (simp; omega))) h1 h2).mono ?_
  rintro e w1 ⟨rfl, hb1⟩
  have hz1 := hb1.size; try simp at hz1
  obtain ⟨hc10, hf10⟩ := box hb1 (w.heap.size) (by first | omega | (simp; done) | (simp; omega))
  by_cases n0 : leftOf left (szList byteR x.Data) < 0
  · go_wp2
    go_ret
    exact ⟨ret_int (by rw [← Nat.add_zero (szList byteR x.Data)]; exact (leftOf_neg n0).symm), by (repeat (first | (with_reducible exact Below.refl _ _) | (with_reducible assumption) | ((with_reducible refine Below.setCell ?_ ?_ _); rotate_left; focus (first | omega | (simp; done) | (simp; omega))) | ((with_reducible refine Below.alloc ?_ ?_ _); rotate_left; focus (first | omega | (simp; done) | (simp; omega))) | (with_reducible refine Below.drew ?_) | (with_reducible refine below_drewN ?_ _) | (refine Below.trans ?_ (Below.mono (by with_reducible assumption) (by (first | omega | (simp; done) | (simp; omega)))))))⟩
  have g0 := Int.not_lt.1 n0
  go_wp2
  go_ret
  exact ⟨rfl, by (repeat (first | (with_reducible exact Below.refl _ _) | (with_reducible assumption) | ((with_reducible refine Below.setCell ?_ ?_ _); rotate_left; focus (first | omega | (simp; done) | (simp; omega))) | ((with_reducible refine Below.alloc ?_ ?_ _); rotate_left; focus (first | omega | (simp; done) | (simp; omega))) | (with_reducible refine Below.drew ?_) | (with_reducible refine below_drewN ?_ _) | (refine Below.trans ?_ (Below.mono (by with_reducible assumption) (by (first | omega | (simp; done) | (simp; omega)))))))⟩
set_option maxHeartbeats 800000 in
theorem to2_Box (cs : List Value) (x : Box) (w : World) (h : BoxR.Rd w w.heap.size cs x) (hm : BoxR.sz x ≤ 1048576) :
    Calls Try.prog 37 #[.agg cs.toArray] w fun e w' => ∃ cs', e = .returned (.agg cs'.toArray) ∧ BoxR.Own w' (InR w.heap.size w'.heap.size) cs' x ∧ Below w.heap.size w w' := by
  obtain ⟨v0, rfl, q0⟩ := rd_Box h
  rw [sz_Box] at hm
  obtain ⟨A0, c0, rfl⟩ := q0.form
  go_enter Try.func37, Try.ntmps37
  go_wp2_with fail
  refine (to2_ByteS _ _ _ (q0.keep (by (repeat (first | (with_reducible exact Below.refl _ _) | (with_reducible assumption) | ((with_reducible refine Below.setCell ?_ ?_ _); rotate_left; focus (first | omega | (simp; done) | (simp; omega))) | ((with_reducible refine Below.alloc ?_ ?_ _); rotate_left; focus (first | omega | (simp; done) | (simp; omega))) | (with_reducible refine Below.drew ?_) | (with_reducible refine below_drewN ?_ _) | (refine Below.trans ?_ (Below.mono (by with_reducible assumption) (by (first | omega | (simp; done) | (simp; omega)))))))) (by first | omega | (simp; done) | (simp; omega))) (by omega)).mono ?_
  rintro e w1 ⟨_, rfl, ho0, hb1⟩
  obtain ⟨D0, d0, rfl⟩ := ho0.form
  have hz1 := hb1.size; try simp at hz1
  obtain ⟨hc10, hf10⟩ := box hb1 (w.heap.size) (by first | omega | (simp; done) | (simp; omega))
  obtain ⟨hc11, hf11⟩ := box hb1 (w.heap.size + 1) (by first | omega | (simp; done) | (simp; omega))
  obtain ⟨hc12, hf12⟩ := box hb1 (w.heap.size + 1 + 1) (by first | omega | (simp; done) | (simp; omega))
  go_wp2
  refine bodyPost_ret (v := .agg #[.int .i64 x.Nonce, .slice D0 x.Data.length d0, .int .i64 x.Tag]) (by simp [results, Try.results37, go_sem, hc10, hf10, hc11, hf11, hc12, hf12]) rfl ⟨[.int .i64 x.Nonce, .slice D0 x.Data.length d0, .int .i64 x.Tag], rfl, ?_, by (repeat (first | (with_reducible exact Below.refl _ _) | (with_reducible assumption) | ((with_reducible refine Below.setCell ?_ ?_ _); rotate_left; focus (first | omega | (simp; done) | (simp; omega))) | ((with_reducible refine Below.alloc ?_ ?_ _); rotate_left; focus (first | omega | (simp; done) | (simp; omega))) | (with_reducible refine Below.drew ?_) | (with_reducible refine below_drewN ?_ _) | (refine Below.trans ?_ (Below.mono (by with_reducible assumption) (by (first | omega | (simp; done) | (simp; omega)))))))⟩
  refine of_own_Box (SlOwn.off ho0 (by (repeat (first | (with_reducible exact Out.refl _ _) | (with_reducible assumption) | ((with_reducible refine Out.setCell ?_ ?_ _); rotate_left; focus (first | (refine Or.inl ?_; (first | omega | (simp; done) | (simp; omega))) | (refine Or.inr ?_; (first | omega | (simp; done) | (simp; omega))))) | (with_reducible refine Out.alloc ?_ _) | (with_reducible refine Out.drew ?_) | (with_reducible refine Out.drewN ?_ _) | (refine Out.step ?_ (by with_reducible assumption)))))) (inR_mono (by first | omega | (simp; done) | (simp; omega)) (by first | omega | (simp; done) | (simp; omega)))
set_option maxHeartbeats 1600000 in
theorem eq2_Box (cs cs' : List Value) (x y : Box) (w : World) (h : BoxR.Rd w w.heap.size cs x) (h' : BoxR.Rd w w.heap.size cs' y) (m : BoxR.sz x ≤ 140737488351232) (m' : BoxR.sz y ≤ 140737488351232) :
    Calls Try.prog 41 #[.agg cs.toArray, .agg cs'.toArray] w fun e w' => e = .returned (.bool (decide (x = y))) ∧ Below w.heap.size w w' := by
  obtain ⟨v0, rfl, q0⟩ := rd_Box h
  obtain ⟨A0, c0, rfl⟩ := q0.form
  obtain ⟨v0', rfl, q0'⟩ := rd_Box h'
  obtain ⟨A0', c0', rfl⟩ := q0'.form
  rw [sz_Box] at m m'
  have m0 : szList byteR x.Data ≤ 140737488351232 := by omega
  have m0' : szList byteR y.Data ≤ 140737488351232 := by omega
  clear m m'
  have HX : Hid (∀ b : Bool, b = decide (x.Nonce = y.Nonce ∧ x.Data = y.Data ∧ x.Tag = y.Tag) → b = decide (x = y)) := Lib.hid (by intro b hb; rw [hb]; cases x; cases y; simp)
  go_enter Try.func41, Try.ntmps41
  go_wp2_with (first
  | (go_at_call 12; refine (eq2_ByteS _ _ _ _ _ (by first | exact q0.keep (by (repeat (first | (with_reducible exact Below.refl _ _) | (with_reducible assumption) | ((with_reducible refine Below.setCell ?_ ?_ _); rotate_left; focus (first | omega | (simp; done) | (simp; omega))) | ((with_reducible refine Below.alloc ?_ ?_ _); rotate_left; focus (first | omega | (simp; done) | (simp; omega))) | (with_reducible refine Below.drew ?_) | (with_reducible refine below_drewN ?_ _) | (refine Below.trans ?_ (Below.mono (by with_reducible assumption) (by (first | omega | (simp; done) | (simp; omega)))))))) (by first | omega | (simp; done) | (simp; omega))) (by first | exact q0'.keep (by (repeat (first | (with_reducible exact Below.refl _ _) | (with_reducible assumption) | ((with_reducible refine Below.setCell ?_ ?_ _); rotate_left; focus (first | omega | (simp; done) | (simp; omega))) | ((with_reducible refine Below.alloc ?_ ?_ _); rotate_left; focus (first | omega | (simp; done) | (simp; omega))) | (with_reducible refine Below.drew ?_) | (with_reducible refine below_drewN ?_ _) | (refine Below.trans ?_ (Below.mono (by with_reducible assumption) (by (first | omega | (simp; done) | (simp; omega)))))))) (by first | omega | (simp; done) | (simp; omega))) (by assumption) (by assumption)).mono ?_; rintro e w1 ⟨rfl, hb1⟩; have hz1 := hb1.size; (try simp at hz1); obtain ⟨hc10, hf10⟩ := box hb1 (w.heap.size) (by first | omega | (simp; done) | (simp; omega)); obtain ⟨hc11, hf11⟩ := box hb1 (w.heap.size + 1) (by first | omega | (simp; done) | (simp; omega))))
  all_goals (go_ret; exact ⟨ret_bool (HX.out _ (by simp_all)), by (repeat (first | (with_reducible exact Below.refl _ _) | (with_reducible assumption) | ((with_reducible refine Below.setCell ?_ ?_ _); rotate_left; focus (first | omega | (simp; done) | (simp; omega))) | ((with_reducible refine Below.alloc ?_ ?_ _); rotate_left; focus (first | omega | (simp; done) | (simp; omega))) | (with_reducible refine Below.drew ?_) | (with_reducible refine below_drewN ?_ _) | (refine Below.trans ?_ (Below.mono (by with_reducible assumption) (by (first | omega | (simp; done) | (simp; omega)))))))⟩)
def Box.markTop (k : Nat) (x : Box) : Box := { x with Data := mkList byteR (k) x.Data }
def Box.cntTop (x : Box) : Nat := cntList byteR x.Data
theorem cnt_bd_Box (x : Box) : x.cntTop ≤ 16 * BoxR.sz x := by
  have h0 := cnt_bd_ByteS x.Data
  rw [sz_Box]
  show cntList byteR x.Data ≤ _
  omega
set_option maxHeartbeats 800000 in
theorem mark2_Box (cs : List Value) (x : Box) (S : Nat → Prop) (k : Nat) (w : World) (h : BoxR.Own w S cs x) (m0 : szList byteR x.Data ≤ 2097152) (hS : ∀ g, S g → g < w.heap.size) (h0 : 0 < k) (hk : k ≤ 100000000) :
    Calls Try.prog 43 #[.agg cs.toArray, .int .i64 k] w fun e w' => e = .returned (.int .i64 ((k + x.cntTop : Nat) : Int)) ∧ BoxR.Own w' S cs (x.markTop k) ∧ Out S w w' := by
  obtain ⟨v0, S0, rfl, q0, s0⟩ := own_Box h
  rw [show k + x.cntTop = k + cntList byteR x.Data from rfl]
  obtain ⟨A0, c0, rfl⟩ := q0.form
  have hcb0 := cnt_bd_ByteS x.Data
  go_enter Try.func43, Try.ntmps43
  go_wp2_with fail
  replace q0 := q0.keep (w' := w.alloc (.cells #[.int .i64 x.Nonce, .slice A0 x.Data.length c0, .int .i64 x.Tag] 36)) (by (repeat (first | (with_reducible exact Below.refl _ _) | (with_reducible assumption) | ((with_reducible refine Below.setCell ?_ ?_ _); rotate_left; focus (first | omega | (simp; done) | (simp; omega))) | ((with_reducible refine Below.alloc ?_ ?_ _); rotate_left; focus (first | omega | (simp; done) | (simp; omega))) | (with_reducible refine Below.drew ?_) | (with_reducible refine below_drewN ?_ _) | (refine Below.trans ?_ (Below.mono (by with_reducible assumption) (by (first | omega | (simp; done) | (simp; omega))))))))
  have hO := Out.of_below (S := S) (w := w) (w' := w.alloc (.cells #[.int .i64 x.Nonce, .slice A0 x.Data.length c0, .int .i64 x.Tag] 36)) (by (repeat (first | (with_reducible exact Below.refl _ _) | (with_reducible assumption) | ((with_reducible refine Below.setCell ?_ ?_ _); rotate_left; focus (first | omega | (simp; done) | (simp; omega))) | ((with_reducible refine Below.alloc ?_ ?_ _); rotate_left; focus (first | omega | (simp; done) | (simp; omega))) | (with_reducible refine Below.drew ?_) | (with_reducible refine below_drewN ?_ _) | (refine Below.trans ?_ (Below.mono (by with_reducible assumption) (by (first | omega | (simp; done) | (simp; omega))))))))
  refine (Calls.cast (by push_cast; rfl) (mark2_ByteS _ _ _ (k) _ q0 (Nat.le_trans (Nat.le_add_right _ _) m0) (by omega))).mono ?_
  rintro e w1 ⟨rfl, r0, ho0⟩
  replace hO := hO.trans (ho0.wide s0)
  go_wp2
  go_ret
  refine ⟨by first | rfl | (push_cast; rfl), ?_, hO⟩
  exact of_own_Box (x := x.markTop k) r0 s0
set_option maxHeartbeats 800000 in
theorem held2_Box (cs : List Value) (x : Box) (k : Nat) (w : World) (h : BoxR.Rd w w.heap.size cs (x.markTop k)) (m0 : szList byteR x.Data ≤ 2097152) (h0 : 0 < k) (hk : k ≤ 100000000) :
    Calls Try.prog 46 #[.agg cs.toArray, .int .i64 k] w fun e w' => e = .returned (.int .i64 ((k + x.cntTop : Nat) : Int)) ∧ Below w.heap.size w w' := by
  obtain ⟨v0, rfl, q0⟩ := rd_Box h
  rw [show k + x.cntTop = k + cntList byteR x.Data from rfl]
  replace q0 : SlRd byteR w w.heap.size v0 (mkList byteR (k) x.Data) := q0
  obtain ⟨A0, c0, rfl⟩ := q0.form
  have hcb0 := cnt_bd_ByteS x.Data
  go_enter Try.func46, Try.ntmps46
  go_wp2_with fail
  refine (Calls.cast (by push_cast; rfl) (held2_ByteS _ _ (k) _ (q0.keep (by (repeat (first | (with_reducible exact Below.refl _ _) | (with_reducible assumption) | ((with_reducible refine Below.setCell ?_ ?_ _); rotate_left; focus (first | omega | (simp; done) | (simp; omega))) | ((with_reducible refine Below.alloc ?_ ?_ _); rotate_left; focus (first | omega | (simp; done) | (simp; omega))) | (with_reducible refine Below.drew ?_) | (with_reducible refine below_drewN ?_ _) | (refine Below.trans ?_ (Below.mono (by with_reducible assumption) (by (first | omega | (simp; done) | (simp; omega)))))))) (by first | omega | (simp; done) | (simp; omega))) (Nat.le_trans (Nat.le_add_right _ _) m0) (by omega))).mono ?_
  rintro e w1 ⟨rfl, hb1⟩
  have hz1 := hb1.size; try simp at hz1
  obtain ⟨hc10, hf10⟩ := box hb1 (w.heap.size) (by first | omega | (simp; done) | (simp; omega))
  have hpos0 : (0 : Int) ≤ ((k + cntList byteR x.Data : Nat) : Int) := by omega
  push_cast at hpos0
  go_wp2
  go_ret
  exact ⟨by first | rfl | (push_cast; rfl), by (repeat (first | (with_reducible exact Below.refl _ _) | (with_reducible assumption) | ((with_reducible refine Below.setCell ?_ ?_ _); rotate_left; focus (first | omega | (simp; done) | (simp; omega))) | ((with_reducible refine Below.alloc ?_ ?_ _); rotate_left; focus (first | omega | (simp; done) | (simp; omega))) | (with_reducible refine Below.drew ?_) | (with_reducible refine below_drewN ?_ _) | (refine Below.trans ?_ (Below.mono (by with_reducible assumption) (by (first | omega | (simp; done) | (simp; omega)))))))⟩
end Go.Proofs.Ytlncnicpiadaaaa

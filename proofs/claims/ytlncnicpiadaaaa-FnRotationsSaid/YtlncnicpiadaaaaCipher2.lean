/- Contracts of the helpers on Cipher (printed by wip/gen/gen2.py). -/
import Derived.Test.YtlncnicpiadaaaaByteS2
import Derived.Test.YtlncnicpiadaaaaBox2
set_option linter.unusedSimpArgs false
set_option linter.unusedVariables false
set_option maxRecDepth 20000
namespace Go.Proofs.Ytlncnicpiadaaaa
open Go.RowKit
structure Cipher where
  Version : Int
  Nonce : Int
  Data : List UInt8
  Tag : Int
  deriving DecidableEq
def CipherR : Rep Cipher := (Rep.pair intR (Rep.pair intR (Rep.pair (byteR.sl 5) intR))).as (fun x => (x.Version, x.Nonce, x.Data, x.Tag)) (fun p => ⟨p.1, p.2.1, p.2.2.1, p.2.2.2⟩)
theorem rd_Cipher {w : World} {B : Nat} {cs : List Value} {x : Cipher} (h : CipherR.Rd w B cs x) : ∃ v0, cs = [.int .i64 x.Version, .int .i64 x.Nonce, v0, .int .i64 x.Tag] ∧ SlRd byteR w B v0 x.Data := by
  obtain ⟨_, _, rfl, ⟨rfl, -⟩, ⟨_, _, rfl, ⟨rfl, -⟩, ⟨_, _, rfl, ⟨v0, rfl, h0⟩, ⟨rfl, -⟩⟩⟩⟩ := h
  exact ⟨v0, rfl, h0⟩
theorem of_rd_Cipher {w : World} {B : Nat} {x : Cipher} {v0 : Value} (h0 : SlRd byteR w B v0 x.Data) : CipherR.Rd w B [.int .i64 x.Version, .int .i64 x.Nonce, v0, .int .i64 x.Tag] x := ⟨[_], _, rfl, ⟨rfl, trivial⟩, ⟨[_], _, rfl, ⟨rfl, trivial⟩, ⟨[_], _, rfl, ⟨_, rfl, h0⟩, ⟨rfl, trivial⟩⟩⟩⟩
theorem own_Cipher {w : World} {S : Nat → Prop} {cs : List Value} {x : Cipher} (h : CipherR.Own w S cs x) : ∃ v0, ∃ S0 : Nat → Prop, cs = [.int .i64 x.Version, .int .i64 x.Nonce, v0, .int .i64 x.Tag] ∧ SlOwn byteR 5 w S0 v0 x.Data ∧ (∀ g, S0 g → S g) := by
  obtain ⟨_, _, U0, T0, rfl, ⟨rfl, -⟩, ⟨_, _, U1, T1, rfl, ⟨rfl, -⟩, ⟨_, _, U2, T2, rfl, ⟨v0, rfl, h0⟩, ⟨rfl, -⟩, a2, d2⟩, a1, d1⟩, a0, d0⟩ := h
  exact ⟨v0, U2, rfl, h0, (fun g hg => (d0 g (d1 g (a2 g hg).1)))⟩
theorem of_own_Cipher {w : World} {S : Nat → Prop} {x : Cipher} {v0 : Value} {S0 : Nat → Prop} (h0 : SlOwn byteR 5 w S0 v0 x.Data) (s0 : ∀ g, S0 g → S g) : CipherR.Own w S [.int .i64 x.Version, .int .i64 x.Nonce, v0, .int .i64 x.Tag] x := ⟨[_], _, fun _ => False, S, rfl, ⟨rfl, trivial⟩, ⟨[_], _, fun _ => False, S, rfl, ⟨rfl, trivial⟩, ⟨[_], _, S0, fun _ => False, rfl, ⟨_, rfl, h0⟩, ⟨rfl, trivial⟩, (fun g hg => ⟨s0 g hg, fun h => h⟩), (fun g hg => hg.elim)⟩, (fun g hg => hg.elim), (fun g hg => hg)⟩, (fun g hg => hg.elim), (fun g hg => hg)⟩
theorem sz_Cipher (x : Cipher) : CipherR.sz x = szList byteR x.Data := by simp [CipherR, Rep.as, Rep.pair, Rep.sl, intR, Rep.flat]
def Cipher.box (x : Cipher) : Box := ⟨x.Nonce, x.Data, x.Tag⟩
set_option maxHeartbeats 800000 in
theorem sz2_Cipher (cs : List Value) (x : Cipher) (left : Int) (w : World) (h : CipherR.Rd w w.heap.size cs x) (h1 : -1 ≤ left) (h2 : left ≤ 1048576) :
    Calls Try.prog 7 #[.agg cs.toArray, .int .i64 left] w fun e w' => e = .returned (.int .i64 (leftOf left (CipherR.sz x))) ∧ Below w.heap.size w w' := by
  obtain ⟨v0, rfl, q0⟩ := rd_Cipher h
  rw [sz_Cipher]
  obtain ⟨A0, c0, rfl⟩ := q0.form
  have HB := Lib.hid (fun (w' : World) (hb : Below w.heap.size w w') => sz2_Box [.int .i64 x.Nonce, .slice A0 x.Data.length c0, .int .i64 x.Tag] x.box left w' (of_rd_Box (x := x.box) (q0.keep hb hb.size)) h1 h2)
  go_enter Try.func7, Try.ntmps7
  go_wp2_with fail
  refine (HB.out _ (by (repeat (first | (with_reducible exact Below.refl _ _) | (with_reducible assumption) | ((with_reducible refine Below.setCell ?_ ?_ _); rotate_left; focus (first | omega | (simp; done) | (simp; omega))) | ((with_reducible refine Below.alloc ?_ ?_ _); rotate_left; focus (first | omega | (simp; done) | (simp; omega))) | (with_reducible refine Below.drew ?_) | (with_reducible refine below_drewN ?_ _) | (refine Below.trans ?_ (Below.mono (by with_reducible assumption) (by (first | omega | (simp; done) | (simp; omega))))))))).mono ?_
  rintro e w1 ⟨rfl, hb1⟩
  rw [sz_Box]
  have hz1 := hb1.size; try simp at hz1
  by_cases n0 : leftOf left (szList byteR x.Data) < 0
  · have n1 : leftOf left (szList byteR x.box.Data) < 0 := n0
    go_wp2
    go_ret
    exact ⟨ret_int (by rw [← Nat.add_zero (szList byteR x.Data)]; exact (leftOf_neg n0).symm), by (repeat (first | (with_reducible exact Below.refl _ _) | (with_reducible assumption) | ((with_reducible refine Below.setCell ?_ ?_ _); rotate_left; focus (first | omega | (simp; done) | (simp; omega))) | ((with_reducible refine Below.alloc ?_ ?_ _); rotate_left; focus (first | omega | (simp; done) | (simp; omega))) | (with_reducible refine Below.drew ?_) | (with_reducible refine below_drewN ?_ _) | (refine Below.trans ?_ (Below.mono (by with_reducible assumption) (by (first | omega | (simp; done) | (simp; omega)))))))⟩
  have g0 := Int.not_lt.1 n0
  have g1 : 0 ≤ leftOf left (szList byteR x.box.Data) := g0
  go_wp2
  go_ret
  exact ⟨rfl, by (repeat (first | (with_reducible exact Below.refl _ _) | (with_reducible assumption) | ((with_reducible refine Below.setCell ?_ ?_ _); rotate_left; focus (first | omega | (simp; done) | (simp; omega))) | ((with_reducible refine Below.alloc ?_ ?_ _); rotate_left; focus (first | omega | (simp; done) | (simp; omega))) | (with_reducible refine Below.drew ?_) | (with_reducible refine below_drewN ?_ _) | (refine Below.trans ?_ (Below.mono (by with_reducible assumption) (by (first | omega | (simp; done) | (simp; omega)))))))⟩
set_option maxHeartbeats 800000 in
theorem to2_Cipher (cs : List Value) (x : Cipher) (w : World) (h : CipherR.Rd w w.heap.size cs x) (hm : CipherR.sz x ≤ 1048576) :
    Calls Try.prog 10 #[.agg cs.toArray] w fun e w' => ∃ cs', e = .returned (.agg cs'.toArray) ∧ CipherR.Own w' (InR w.heap.size w'.heap.size) cs' x ∧ Below w.heap.size w w' := by
  obtain ⟨v0, rfl, q0⟩ := rd_Cipher h
  rw [sz_Cipher] at hm
  obtain ⟨A0, c0, rfl⟩ := q0.form
  have HB := Lib.hid (fun (w' : World) (hb : Below w.heap.size w w') => to2_Box [.int .i64 x.Nonce, .slice A0 x.Data.length c0, .int .i64 x.Tag] x.box w' (of_rd_Box (x := x.box) (q0.keep hb hb.size)) (by rw [sz_Box]; exact hm))
  go_enter Try.func10, Try.ntmps10
  go_wp2_with fail
  refine (HB.out _ (by (repeat (first | (with_reducible exact Below.refl _ _) | (with_reducible assumption) | ((with_reducible refine Below.setCell ?_ ?_ _); rotate_left; focus (first | omega | (simp; done) | (simp; omega))) | ((with_reducible refine Below.alloc ?_ ?_ _); rotate_left; focus (first | omega | (simp; done) | (simp; omega))) | (with_reducible refine Below.drew ?_) | (with_reducible refine below_drewN ?_ _) | (refine Below.trans ?_ (Below.mono (by with_reducible assumption) (by (first | omega | (simp; done) | (simp; omega))))))))).mono ?_
  rintro e w1 ⟨_, rfl, ho, hb1⟩
  obtain ⟨v1, S1, rfl, r1, s1⟩ := own_Box (id ho)
  obtain ⟨D0, d0, rfl⟩ := r1.form
  have hz1 := hb1.size; try simp at hz1
  obtain ⟨hc10, hf10⟩ := box hb1 (w.heap.size) (by first | omega | (simp; done) | (simp; omega))
  obtain ⟨hc11, hf11⟩ := box hb1 (w.heap.size + 1) (by first | omega | (simp; done) | (simp; omega))
  obtain ⟨hc12, hf12⟩ := box hb1 (w.heap.size + 1 + 1) (by first | omega | (simp; done) | (simp; omega))
  simp only [Cipher.box] at *
  go_wp2
  refine bodyPost_ret (v := .agg #[.int .i64 x.Version, .int .i64 x.Nonce, .slice D0 x.Data.length d0, .int .i64 x.Tag]) (by simp [results, Try.results10, go_sem, hc10, hf10, hc11, hf11, hc12, hf12]) rfl ⟨[.int .i64 x.Version, .int .i64 x.Nonce, .slice D0 x.Data.length d0, .int .i64 x.Tag], rfl, ?_, by (repeat (first | (with_reducible exact Below.refl _ _) | (with_reducible assumption) | ((with_reducible refine Below.setCell ?_ ?_ _); rotate_left; focus (first | omega | (simp; done) | (simp; omega))) | ((with_reducible refine Below.alloc ?_ ?_ _); rotate_left; focus (first | omega | (simp; done) | (simp; omega))) | (with_reducible refine Below.drew ?_) | (with_reducible refine below_drewN ?_ _) | (refine Below.trans ?_ (Below.mono (by with_reducible assumption) (by (first | omega | (simp; done) | (simp; omega)))))))⟩
  exact of_own_Cipher (SlOwn.offS r1 s1 (by (repeat (first | (with_reducible exact Out.refl _ _) | (with_reducible assumption) | ((with_reducible refine Out.setCell ?_ ?_ _); rotate_left; focus (first | (refine Or.inl ?_; (first | omega | (simp; done) | (simp; omega))) | (refine Or.inr ?_; (first | omega | (simp; done) | (simp; omega))))) | (with_reducible refine Out.alloc ?_ _) | (with_reducible refine Out.drew ?_) | (with_reducible refine Out.drewN ?_ _) | (refine Out.step ?_ (by with_reducible assumption)))))) (fun g hg => inR_mono (by first | omega | (simp; done) | (simp; omega)) (by first | omega | (simp; done) | (simp; omega)) g (s1 g hg))
set_option maxHeartbeats 1600000 in
theorem eq2_Cipher (cs cs' : List Value) (x y : Cipher) (w : World) (h : CipherR.Rd w w.heap.size cs x) (h' : CipherR.Rd w w.heap.size cs' y) (m : CipherR.sz x ≤ 140737488351232) (m' : CipherR.sz y ≤ 140737488351232) :
    Calls Try.prog 14 #[.agg cs.toArray, .agg cs'.toArray] w fun e w' => e = .returned (.bool (decide (x = y))) ∧ Below w.heap.size w w' := by
  obtain ⟨v0, rfl, q0⟩ := rd_Cipher h
  obtain ⟨A0, c0, rfl⟩ := q0.form
  obtain ⟨v0', rfl, q0'⟩ := rd_Cipher h'
  obtain ⟨A0', c0', rfl⟩ := q0'.form
  rw [sz_Cipher] at m m'
  have HB := Lib.hid (fun (w' : World) (hb : Below w.heap.size w w') => eq2_Box [.int .i64 x.Nonce, .slice A0 x.Data.length c0, .int .i64 x.Tag] [.int .i64 y.Nonce, .slice A0' y.Data.length c0', .int .i64 y.Tag] x.box y.box w' (of_rd_Box (x := x.box) (q0.keep hb hb.size)) (of_rd_Box (x := y.box) (q0'.keep hb hb.size)) (by rw [sz_Box]; exact m) (by rw [sz_Box]; exact m'))
  have HX : Hid (∀ b : Bool, b = decide (x.Version = y.Version ∧ x.box = y.box) → b = decide (x = y)) := Lib.hid (by intro b hb; rw [hb]; cases x; cases y; simp [Cipher.box])
  clear m m'
  by_cases hv : x.Version = y.Version
  · have hvb : (x.Version == y.Version) = true := by simpa using hv
    cases hbx : decide (x.box = y.box)
    all_goals
      rw [hbx] at HB
      go_enter Try.func14, Try.ntmps14
      go_wp2_with fail
      refine (HB.out _ (by (repeat (first | (with_reducible exact Below.refl _ _) | (with_reducible assumption) | ((with_reducible refine Below.setCell ?_ ?_ _); rotate_left; focus (first | omega | (simp; done) | (simp; omega))) | ((with_reducible refine Below.alloc ?_ ?_ _); rotate_left; focus (first | omega | (simp; done) | (simp; omega))) | (with_reducible refine Below.drew ?_) | (with_reducible refine below_drewN ?_ _) | (refine Below.trans ?_ (Below.mono (by with_reducible assumption) (by (first | omega | (simp; done) | (simp; omega))))))))).mono ?_
      rintro e w1 ⟨rfl, hb1⟩
      go_wp2
      go_ret
      exact ⟨ret_bool (HX.out _ (by rw [Bool.decide_and, hbx, decide_eq_true hv]; rfl)), by (repeat (first | (with_reducible exact Below.refl _ _) | (with_reducible assumption) | ((with_reducible refine Below.setCell ?_ ?_ _); rotate_left; focus (first | omega | (simp; done) | (simp; omega))) | ((with_reducible refine Below.alloc ?_ ?_ _); rotate_left; focus (first | omega | (simp; done) | (simp; omega))) | (with_reducible refine Below.drew ?_) | (with_reducible refine below_drewN ?_ _) | (refine Below.trans ?_ (Below.mono (by with_reducible assumption) (by (first | omega | (simp; done) | (simp; omega)))))))⟩
  · have hvb : (x.Version == y.Version) = false := by simpa using hv
    go_enter Try.func14, Try.ntmps14
    go_wp2
    go_ret
    exact ⟨ret_bool (HX.out _ (by simp [hv])), by (repeat (first | (with_reducible exact Below.refl _ _) | (with_reducible assumption) | ((with_reducible refine Below.setCell ?_ ?_ _); rotate_left; focus (first | omega | (simp; done) | (simp; omega))) | ((with_reducible refine Below.alloc ?_ ?_ _); rotate_left; focus (first | omega | (simp; done) | (simp; omega))) | (with_reducible refine Below.drew ?_) | (with_reducible refine below_drewN ?_ _) | (refine Below.trans ?_ (Below.mono (by with_reducible assumption) (by (first | omega | (simp; done) | (simp; omega)))))))⟩
def Cipher.markTop (k : Nat) (x : Cipher) : Cipher := { x with Data := mkList byteR (k) x.Data }
def Cipher.cntTop (x : Cipher) : Nat := cntList byteR x.Data
theorem cnt_bd_Cipher (x : Cipher) : x.cntTop ≤ 16 * CipherR.sz x := by
  have h0 := cnt_bd_ByteS x.Data
  rw [sz_Cipher]
  show cntList byteR x.Data ≤ _
  omega
set_option maxHeartbeats 800000 in
theorem mark2_Cipher (cs : List Value) (x : Cipher) (S : Nat → Prop) (k : Nat) (w : World) (h : CipherR.Own w S cs x) (m0 : szList byteR x.Data ≤ 2097152) (hS : ∀ g, S g → g < w.heap.size) (h0 : 0 < k) (hk : k ≤ 100000000) :
    Calls Try.prog 16 #[.agg cs.toArray, .int .i64 k] w fun e w' => e = .returned (.int .i64 ((k + x.cntTop : Nat) : Int)) ∧ CipherR.Own w' S cs (x.markTop k) ∧ Out S w w' := by
  obtain ⟨v0, S0, rfl, q0, s0⟩ := own_Cipher h
  obtain ⟨A0, c0, rfl⟩ := q0.form
  have hcb0 := cnt_bd_ByteS x.Data
  rw [show k + x.cntTop = k + cntList byteR x.Data from rfl]
  go_enter Try.func16, Try.ntmps16
  go_wp2_with fail
  replace q0 := q0.keep (w' := w.alloc (.cells #[.int .i64 x.Version, .int .i64 x.Nonce, .slice A0 x.Data.length c0, .int .i64 x.Tag] 38)) (by (repeat (first | (with_reducible exact Below.refl _ _) | (with_reducible assumption) | ((with_reducible refine Below.setCell ?_ ?_ _); rotate_left; focus (first | omega | (simp; done) | (simp; omega))) | ((with_reducible refine Below.alloc ?_ ?_ _); rotate_left; focus (first | omega | (simp; done) | (simp; omega))) | (with_reducible refine Below.drew ?_) | (with_reducible refine below_drewN ?_ _) | (refine Below.trans ?_ (Below.mono (by with_reducible assumption) (by (first | omega | (simp; done) | (simp; omega))))))))
  have hO := Out.of_below (S := S) (w := w) (w' := w.alloc (.cells #[.int .i64 x.Version, .int .i64 x.Nonce, .slice A0 x.Data.length c0, .int .i64 x.Tag] 38)) (by (repeat (first | (with_reducible exact Below.refl _ _) | (with_reducible assumption) | ((with_reducible refine Below.setCell ?_ ?_ _); rotate_left; focus (first | omega | (simp; done) | (simp; omega))) | ((with_reducible refine Below.alloc ?_ ?_ _); rotate_left; focus (first | omega | (simp; done) | (simp; omega))) | (with_reducible refine Below.drew ?_) | (with_reducible refine below_drewN ?_ _) | (refine Below.trans ?_ (Below.mono (by with_reducible assumption) (by (first | omega | (simp; done) | (simp; omega))))))))
  refine (mark2_Box [.int .i64 x.Nonce, .slice A0 x.Data.length c0, .int .i64 x.Tag] x.box S0 k _ (of_own_Box (x := x.box) q0 (fun _ h => h)) m0 (fun g hg => by have := hS g (s0 g hg); simp; omega) h0 hk).mono ?_
  rintro e w1 ⟨rfl, r0, ho0⟩
  rw [show k + x.box.cntTop = k + cntList byteR x.Data from rfl]
  obtain ⟨v1, S1, e1, r1, s1⟩ := own_Box r0
  have hO2 := hO.trans (ho0.wide s0)
  go_wp2
  go_ret
  refine ⟨by first | rfl | (push_cast; rfl), ?_, hO2⟩
  simp only [List.cons.injEq, and_true] at e1
  obtain ⟨-, rfl, -⟩ := e1
  exact of_own_Cipher (x := x.markTop k) (S0 := S1) r1 (fun g hg => s0 g (s1 g hg))
set_option maxHeartbeats 800000 in
theorem held2_Cipher (cs : List Value) (x : Cipher) (k : Nat) (w : World) (h : CipherR.Rd w w.heap.size cs (x.markTop k)) (m0 : szList byteR x.Data ≤ 2097152) (h0 : 0 < k) (hk : k ≤ 100000000) :
    Calls Try.prog 21 #[.agg cs.toArray, .int .i64 k] w fun e w' => e = .returned (.int .i64 ((k + x.cntTop : Nat) : Int)) ∧ Below w.heap.size w w' := by
  obtain ⟨v0, rfl, q0⟩ := rd_Cipher h
  rw [show k + x.cntTop = k + cntList byteR x.Data from rfl]
  replace q0 : SlRd byteR w w.heap.size v0 (mkList byteR (k) x.Data) := q0
  obtain ⟨A0, c0, rfl⟩ := q0.form
  have hcb0 := cnt_bd_ByteS x.Data
  have HB := Lib.hid (fun (w' : World) (hb : Below w.heap.size w w') => held2_Box [.int .i64 x.Nonce, .slice A0 (mkList byteR k x.Data).length c0, .int .i64 x.Tag] x.box k w' (of_rd_Box (x := x.box.markTop k) (q0.keep hb hb.size)) m0 h0 hk)
  go_enter Try.func21, Try.ntmps21
  go_wp2_with fail
  refine (HB.out _ (by (repeat (first | (with_reducible exact Below.refl _ _) | (with_reducible assumption) | ((with_reducible refine Below.setCell ?_ ?_ _); rotate_left; focus (first | omega | (simp; done) | (simp; omega))) | ((with_reducible refine Below.alloc ?_ ?_ _); rotate_left; focus (first | omega | (simp; done) | (simp; omega))) | (with_reducible refine Below.drew ?_) | (with_reducible refine below_drewN ?_ _) | (refine Below.trans ?_ (Below.mono (by with_reducible assumption) (by (first | omega | (simp; done) | (simp; omega))))))))).mono ?_
  rintro e w1 ⟨rfl, hb1⟩
  rw [show k + x.box.cntTop = k + cntList byteR x.Data from rfl]
  have hpos0 : (0 : Int) ≤ ((k + cntList byteR x.Data : Nat) : Int) := by omega
  push_cast at hpos0
  go_wp2
  go_ret
  exact ⟨by first | rfl | (push_cast; rfl), by (repeat (first | (with_reducible exact Below.refl _ _) | (with_reducible assumption) | ((with_reducible refine Below.setCell ?_ ?_ _); rotate_left; focus (first | omega | (simp; done) | (simp; omega))) | ((with_reducible refine Below.alloc ?_ ?_ _); rotate_left; focus (first | omega | (simp; done) | (simp; omega))) | (with_reducible refine Below.drew ?_) | (with_reducible refine below_drewN ?_ _) | (refine Below.trans ?_ (Below.mono (by with_reducible assumption) (by (first | omega | (simp; done) | (simp; omega)))))))⟩
end Go.Proofs.Ytlncnicpiadaaaa

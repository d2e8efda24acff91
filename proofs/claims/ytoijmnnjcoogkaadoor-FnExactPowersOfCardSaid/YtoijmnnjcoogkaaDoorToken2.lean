/- Contracts of the helpers on Token (printed by wip/gen/gen2.py). -/
import Derived.Test.YtoijmnnjcoogkaaDoorStringS2
set_option linter.unusedSimpArgs false
set_option linter.unusedVariables false
set_option maxRecDepth 20000
namespace Go.Proofs.YtoijmnnjcoogkaaDoor
open Go.RowKit
structure Token where
  Id : Int
  Parent : Int
  Names : List ByteArray
  Made : Int
  Ends : Int
  Limit : Int
  Uses : Int
  deriving DecidableEq
def TokenR : Rep Token := (Rep.pair intR (Rep.pair intR (Rep.pair (strR.sl 9) (Rep.pair intR (Rep.pair intR (Rep.pair intR intR)))))).as (fun x => (x.Id, x.Parent, x.Names, x.Made, x.Ends, x.Limit, x.Uses)) (fun p => ⟨p.1, p.2.1, p.2.2.1, p.2.2.2.1, p.2.2.2.2.1, p.2.2.2.2.2.1, p.2.2.2.2.2.2⟩)
theorem rd_Token {w : World} {B : Nat} {cs : List Value} {x : Token} (h : TokenR.Rd w B cs x) : ∃ v0, cs = [.int .i64 x.Id, .int .i64 x.Parent, v0, .int .i64 x.Made, .int .i64 x.Ends, .int .i64 x.Limit, .int .i64 x.Uses] ∧ SlRd strR w B v0 x.Names := by
  obtain ⟨_, _, rfl, ⟨rfl, -⟩, ⟨_, _, rfl, ⟨rfl, -⟩, ⟨_, _, rfl, ⟨v0, rfl, h0⟩, ⟨_, _, rfl, ⟨rfl, -⟩, ⟨_, _, rfl, ⟨rfl, -⟩, ⟨_, _, rfl, ⟨rfl, -⟩, ⟨rfl, -⟩⟩⟩⟩⟩⟩⟩ := h
  exact ⟨v0, rfl, h0⟩
theorem of_rd_Token {w : World} {B : Nat} {x : Token} {v0 : Value} (h0 : SlRd strR w B v0 x.Names) : TokenR.Rd w B [.int .i64 x.Id, .int .i64 x.Parent, v0, .int .i64 x.Made, .int .i64 x.Ends, .int .i64 x.Limit, .int .i64 x.Uses] x := ⟨[_], _, rfl, ⟨rfl, trivial⟩, ⟨[_], _, rfl, ⟨rfl, trivial⟩, ⟨[_], _, rfl, ⟨_, rfl, h0⟩, ⟨[_], _, rfl, ⟨rfl, trivial⟩, ⟨[_], _, rfl, ⟨rfl, trivial⟩, ⟨[_], _, rfl, ⟨rfl, trivial⟩, ⟨rfl, trivial⟩⟩⟩⟩⟩⟩⟩
theorem own_Token {w : World} {S : Nat → Prop} {cs : List Value} {x : Token} (h : TokenR.Own w S cs x) : ∃ v0, ∃ S0 : Nat → Prop, cs = [.int .i64 x.Id, .int .i64 x.Parent, v0, .int .i64 x.Made, .int .i64 x.Ends, .int .i64 x.Limit, .int .i64 x.Uses] ∧ SlOwn strR 9 w S0 v0 x.Names ∧ (∀ g, S0 g → S g) := by
  obtain ⟨_, _, U0, T0, rfl, ⟨rfl, -⟩, ⟨_, _, U1, T1, rfl, ⟨rfl, -⟩, ⟨_, _, U2, T2, rfl, ⟨v0, rfl, h0⟩, ⟨_, _, U3, T3, rfl, ⟨rfl, -⟩, ⟨_, _, U4, T4, rfl, ⟨rfl, -⟩, ⟨_, _, U5, T5, rfl, ⟨rfl, -⟩, ⟨rfl, -⟩, a5, d5⟩, a4, d4⟩, a3, d3⟩, a2, d2⟩, a1, d1⟩, a0, d0⟩ := h
  exact ⟨v0, U2, rfl, h0, (fun g hg => (d0 g (d1 g (a2 g hg).1)))⟩
theorem of_own_Token {w : World} {S : Nat → Prop} {x : Token} {v0 : Value} {S0 : Nat → Prop} (h0 : SlOwn strR 9 w S0 v0 x.Names) (s0 : ∀ g, S0 g → S g) : TokenR.Own w S [.int .i64 x.Id, .int .i64 x.Parent, v0, .int .i64 x.Made, .int .i64 x.Ends, .int .i64 x.Limit, .int .i64 x.Uses] x := ⟨[_], _, fun _ => False, S, rfl, ⟨rfl, trivial⟩, ⟨[_], _, fun _ => False, S, rfl, ⟨rfl, trivial⟩, ⟨[_], _, S0, fun _ => False, rfl, ⟨_, rfl, h0⟩, ⟨[_], _, fun _ => False, fun _ => False, rfl, ⟨rfl, trivial⟩, ⟨[_], _, fun _ => False, fun _ => False, rfl, ⟨rfl, trivial⟩, ⟨[_], _, fun _ => False, fun _ => False, rfl, ⟨rfl, trivial⟩, ⟨rfl, trivial⟩, (fun g hg => hg.elim), (fun g hg => hg.elim)⟩, (fun g hg => hg.elim), (fun g hg => hg.elim)⟩, (fun g hg => hg.elim), (fun g hg => hg.elim)⟩, (fun g hg => ⟨s0 g hg, fun h => h⟩), (fun g hg => hg.elim)⟩, (fun g hg => hg.elim), (fun g hg => hg)⟩, (fun g hg => hg.elim), (fun g hg => hg)⟩
theorem sz_Token (x : Token) : TokenR.sz x = szList strR x.Names := by simp [TokenR, Rep.as, Rep.pair, Rep.sl, intR, Rep.flat]
set_option maxHeartbeats 800000 in
theorem sz2_Token (cs : List Value) (x : Token) (left : Int) (w : World) (h : TokenR.Rd w w.heap.size cs x) (h1 : -1 ≤ left) (h2 : left ≤ 1048576) :
    Calls Tryd.prog 33 #[.agg cs.toArray, .int .i64 left] w fun e w' => e = .returned (.int .i64 (leftOf left (TokenR.sz x))) ∧ Below w.heap.size w w' := by
  obtain ⟨v0, rfl, q0⟩ := rd_Token h
  rw [sz_Token]
  obtain ⟨A0, c0, rfl⟩ := q0.form
  go_enter Tryd.func33, Tryd.ntmps33
  go_wp2_with fail
  refine (sz2_StringS _ _ _ _ (q0.keep (by (repeat (first | (with_reducible exact Below.refl _ _) | (with_reducible assumption) | ((with_reducible refine Below.setCell ?_ ?_ _); rotate_left; focus (first | omega | (simp; done) | (simp; omega))) | ((with_reducible refine Below.alloc ?_ ?_ _); rotate_left; focus (first | omega | (simp; done) | (simp; omega))) | (with_reducible refine Below.drew ?_) | (with_reducible refine below_drewN ?_ _) | (refine Below.trans ?_ (Below.mono (by with_reducible assumption) (by (first | omega | (simp; done) | (simp; omega)))))))) (by first | omega | (simp; done) | (simp; omega))) h1 h2).mono ?_
  rintro e w1 ⟨rfl, hb1⟩
  have hz1 := hb1.size; try simp at hz1
  obtain ⟨hc10, hf10⟩ := box hb1 (w.heap.size) (by first | omega | (simp; done) | (simp; omega))
  by_cases n0 : leftOf left (szList strR x.Names) < 0
  · go_wp2
    go_ret
    exact ⟨ret_int (by rw [← Nat.add_zero (szList strR x.Names)]; exact (leftOf_neg n0).symm), by (repeat (first | (with_reducible exact Below.refl _ _) | (with_reducible assumption) | ((with_reducible refine Below.setCell ?_ ?_ _); rotate_left; focus (first | omega | (simp; done) | (simp; omega))) | ((with_reducible refine Below.alloc ?_ ?_ _); rotate_left; focus (first | omega | (simp; done) | (simp; omega))) | (with_reducible refine Below.drew ?_) | (with_reducible refine below_drewN ?_ _) | (refine Below.trans ?_ (Below.mono (by with_reducible assumption) (by (first | omega | (simp; done) | (simp; omega)))))))⟩
  have g0 := Int.not_lt.1 n0
  go_wp2
  go_ret
  exact ⟨rfl, by (repeat (first | (with_reducible exact Below.refl _ _) | (with_reducible assumption) | ((with_reducible refine Below.setCell ?_ ?_ _); rotate_left; focus (first | omega | (simp; done) | (simp; omega))) | ((with_reducible refine Below.alloc ?_ ?_ _); rotate_left; focus (first | omega | (simp; done) | (simp; omega))) | (with_reducible refine Below.drew ?_) | (with_reducible refine below_drewN ?_ _) | (refine Below.trans ?_ (Below.mono (by with_reducible assumption) (by (first | omega | (simp; done) | (simp; omega)))))))⟩
set_option maxHeartbeats 800000 in
theorem to2_Token (cs : List Value) (x : Token) (w : World) (h : TokenR.Rd w w.heap.size cs x) (hm : TokenR.sz x ≤ 1048576) :
    Calls Tryd.prog 39 #[.agg cs.toArray] w fun e w' => ∃ cs', e = .returned (.agg cs'.toArray) ∧ TokenR.Own w' (InR w.heap.size w'.heap.size) cs' x ∧ Below w.heap.size w w' := by
  obtain ⟨v0, rfl, q0⟩ := rd_Token h
  rw [sz_Token] at hm
  obtain ⟨A0, c0, rfl⟩ := q0.form
  go_enter Tryd.func39, Tryd.ntmps39
  go_wp2_with fail
  refine (to2_StringS _ _ _ (q0.keep (by (repeat (first | (with_reducible exact Below.refl _ _) | (with_reducible assumption) | ((with_reducible refine Below.setCell ?_ ?_ _); rotate_left; focus (first | omega | (simp; done) | (simp; omega))) | ((with_reducible refine Below.alloc ?_ ?_ _); rotate_left; focus (first | omega | (simp; done) | (simp; omega))) | (with_reducible refine Below.drew ?_) | (with_reducible refine below_drewN ?_ _) | (refine Below.trans ?_ (Below.mono (by with_reducible assumption) (by (first | omega | (simp; done) | (simp; omega)))))))) (by first | omega | (simp; done) | (simp; omega))) (by omega)).mono ?_
  rintro e w1 ⟨_, rfl, ho0, hb1⟩
  obtain ⟨D0, d0, rfl⟩ := ho0.form
  have hz1 := hb1.size; try simp at hz1
  obtain ⟨hc10, hf10⟩ := box hb1 (w.heap.size) (by first | omega | (simp; done) | (simp; omega))
  obtain ⟨hc11, hf11⟩ := box hb1 (w.heap.size + 1) (by first | omega | (simp; done) | (simp; omega))
  obtain ⟨hc12, hf12⟩ := box hb1 (w.heap.size + 1 + 1) (by first | omega | (simp; done) | (simp; omega))
  go_wp2
  refine bodyPost_ret (v := .agg #[.int .i64 x.Id, .int .i64 x.Parent, .slice D0 x.Names.length d0, .int .i64 x.Made, .int .i64 x.Ends, .int .i64 x.Limit, .int .i64 x.Uses]) (by simp [results, Tryd.results39, go_sem, hc10, hf10, hc11, hf11, hc12, hf12]) rfl ⟨[.int .i64 x.Id, .int .i64 x.Parent, .slice D0 x.Names.length d0, .int .i64 x.Made, .int .i64 x.Ends, .int .i64 x.Limit, .int .i64 x.Uses], rfl, ?_, by (repeat (first | (with_reducible exact Below.refl _ _) | (with_reducible assumption) | ((with_reducible refine Below.setCell ?_ ?_ _); rotate_left; focus (first | omega | (simp; done) | (simp; omega))) | ((with_reducible refine Below.alloc ?_ ?_ _); rotate_left; focus (first | omega | (simp; done) | (simp; omega))) | (with_reducible refine Below.drew ?_) | (with_reducible refine below_drewN ?_ _) | (refine Below.trans ?_ (Below.mono (by with_reducible assumption) (by (first | omega | (simp; done) | (simp; omega)))))))⟩
  refine of_own_Token (SlOwn.off ho0 (by (repeat (first | (with_reducible exact Out.refl _ _) | (with_reducible assumption) | ((with_reducible refine Out.setCell ?_ ?_ _); rotate_left; focus (first | (refine Or.inl ?_; (first | omega | (simp; done) | (simp; omega))) | (refine Or.inr ?_; (first | omega | (simp; done) | (simp; omega))))) | (with_reducible refine Out.alloc ?_ _) | (with_reducible refine Out.drew ?_) | (with_reducible refine Out.drewN ?_ _) | (refine Out.step ?_ (by with_reducible assumption)))))) (inR_mono (by first | omega | (simp; done) | (simp; omega)) (by first | omega | (simp; done) | (simp; omega)))
set_option maxHeartbeats 1600000 in
theorem eq2_Token (cs cs' : List Value) (x y : Token) (w : World) (h : TokenR.Rd w w.heap.size cs x) (h' : TokenR.Rd w w.heap.size cs' y) (m : TokenR.sz x ≤ 140737488351232) (m' : TokenR.sz y ≤ 140737488351232) :
    Calls Tryd.prog 48 #[.agg cs.toArray, .agg cs'.toArray] w fun e w' => e = .returned (.bool (decide (x = y))) ∧ Below w.heap.size w w' := by
  obtain ⟨v0, rfl, q0⟩ := rd_Token h
  obtain ⟨A0, c0, rfl⟩ := q0.form
  obtain ⟨v0', rfl, q0'⟩ := rd_Token h'
  obtain ⟨A0', c0', rfl⟩ := q0'.form
  rw [sz_Token] at m m'
  have m0 : szList strR x.Names ≤ 140737488351232 := by omega
  have m0' : szList strR y.Names ≤ 140737488351232 := by omega
  clear m m'
  have HX : Hid (∀ b : Bool, b = decide (x.Id = y.Id ∧ x.Parent = y.Parent ∧ x.Names = y.Names ∧ x.Made = y.Made ∧ x.Ends = y.Ends ∧ x.Limit = y.Limit ∧ x.Uses = y.Uses) → b = decide (x = y)) := Lib.hid (by intro b hb; rw [hb]; cases x; cases y; simp)
  go_enter Tryd.func48, Tryd.ntmps48
  go_wp2_with (first
  | (go_at_call 65; refine (eq2_StringS _ _ _ _ _ (by first | exact q0.keep (by (repeat (first | (with_reducible exact Below.refl _ _) | (with_reducible assumption) | ((with_reducible refine Below.setCell ?_ ?_ _); rotate_left; focus (first | omega | (simp; done) | (simp; omega))) | ((with_reducible refine Below.alloc ?_ ?_ _); rotate_left; focus (first | omega | (simp; done) | (simp; omega))) | (with_reducible refine Below.drew ?_) | (with_reducible refine below_drewN ?_ _) | (refine Below.trans ?_ (Below.mono (by with_reducible assumption) (by (first | omega | (simp; done) | (simp; omega)))))))) (by first | omega | (simp; done) | (simp; omega))) (by first | exact q0'.keep (by (repeat (first | (with_reducible exact Below.refl _ _) | (with_reducible assumption) | ((with_reducible refine Below.setCell ?_ ?_ _); rotate_left; focus (first | omega | (simp; done) | (simp; omega))) | ((with_reducible refine Below.alloc ?_ ?_ _); rotate_left; focus (first | omega | (simp; done) | (simp; omega))) | (with_reducible refine Below.drew ?_) | (with_reducible refine below_drewN ?_ _) | (refine Below.trans ?_ (Below.mono (by with_reducible assumption) (by (first | omega | (simp; done) | (simp; omega)))))))) (by first | omega | (simp; done) | (simp; omega))) (by assumption) (by assumption)).mono ?_; rintro e w1 ⟨rfl, hb1⟩; have hz1 := hb1.size; (try simp at hz1); obtain ⟨hc10, hf10⟩ := box hb1 (w.heap.size) (by first | omega | (simp; done) | (simp; omega)); obtain ⟨hc11, hf11⟩ := box hb1 (w.heap.size + 1) (by first | omega | (simp; done) | (simp; omega))))
  all_goals (go_ret; exact ⟨ret_bool (HX.out _ (by simp_all)), by (repeat (first | (with_reducible exact Below.refl _ _) | (with_reducible assumption) | ((with_reducible refine Below.setCell ?_ ?_ _); rotate_left; focus (first | omega | (simp; done) | (simp; omega))) | ((with_reducible refine Below.alloc ?_ ?_ _); rotate_left; focus (first | omega | (simp; done) | (simp; omega))) | (with_reducible refine Below.drew ?_) | (with_reducible refine below_drewN ?_ _) | (refine Below.trans ?_ (Below.mono (by with_reducible assumption) (by (first | omega | (simp; done) | (simp; omega)))))))⟩)
def Token.markTop (k : Nat) (x : Token) : Token := { x with Names := mkList strR (k) x.Names }
def Token.cntTop (x : Token) : Nat := cntList strR x.Names
theorem cnt_bd_Token (x : Token) : x.cntTop ≤ 16 * TokenR.sz x := by
  have h0 := cnt_bd_StringS x.Names
  rw [sz_Token]
  show cntList strR x.Names ≤ _
  omega
end Go.Proofs.YtoijmnnjcoogkaaDoor

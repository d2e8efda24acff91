/- Contracts of the helpers on Token (printed by wip/gen/gen2.py). -/
import Derived.Test.YtcfhnhhgnophhaaStringS2
set_option linter.unusedSimpArgs false
set_option linter.unusedVariables false
set_option maxRecDepth 20000
namespace Go.Proofs.Ytcfhnhhgnophhaa
open Go.RowKit
structure Token where
  Id : Int
  Parent : Int
  Names : List ByteArray
  Made : Int
  Ends : Int
  Limit : Int
  Uses : Int
  deriving DecidableEq
def TokenR : Rep Token := (Rep.pair intR (Rep.pair intR (Rep.pair (strR.sl 9) (Rep.pair intR (Rep.pair intR (Rep.pair intR intR)))))).as (fun x => (x.Id, x.Parent, x.Names, x.Made, x.Ends, x.Limit, x.Uses)) (fun p => ⟨p.1, p.2.1, p.2.2.1, p.2.2.2.1, p.2.2.2.2.1, p.2.2.2.2.2.1, p.2.2.2.2.2.2⟩)
theorem rd_Token {w : World} {B : Nat} {cs : List Value} {x : Token} (h : TokenR.Rd w B cs x) : ∃ v0, cs = [.int .i64 x.Id, .int .i64 x.Parent, v0, .int .i64 x.Made, .int .i64 x.Ends, .int .i64 x.Limit, .int .i64 x.Uses] ∧ SlRd strR w B v0 x.Names := by
  obtain ⟨_, _, rfl, ⟨rfl, -⟩, ⟨_, _, rfl, ⟨rfl, -⟩, ⟨_, _, rfl, ⟨v0, rfl, h0⟩, ⟨_, _, rfl, ⟨rfl, -⟩, ⟨_, _, rfl, ⟨rfl, -⟩, ⟨_, _, rfl, ⟨rfl, -⟩, ⟨rfl, -⟩⟩⟩⟩⟩⟩⟩ := h
  exact ⟨v0, rfl, h0⟩
theorem of_rd_Token {w : World} {B : Nat} {x : Token} {v0 : Value} (h0 : SlRd strR w B v0 x.Names) : TokenR.Rd w B [.int .i64 x.Id, .int .i64 x.Parent, v0, .int .i64 x.Made, .int .i64 x.Ends, .int .i64 x.Limit, .int .i64 x.Uses] x := ⟨[_], _, rfl, ⟨rfl, trivial⟩, ⟨[_], _, rfl, ⟨rfl, trivial⟩, ⟨[_], _, rfl, ⟨_, rfl, h0⟩, ⟨[_], _, rfl, ⟨rfl, trivial⟩, ⟨[_], _, rfl, ⟨rfl, trivial⟩, ⟨[_], _, rfl, ⟨rfl, trivial⟩, ⟨rfl, trivial⟩⟩⟩⟩⟩⟩⟩
theorem own_Token {w : World} {S : Nat → Prop} {cs : List Value} {x : Token} (h : TokenR.Own w S cs x) : ∃ v0, ∃ S0 : Nat → Prop, cs = [.int .i64 x.Id, .int .i64 x.Parent, v0, .int .i64 x.Made, .int .i64 x.Ends, .int .i64 x.Limit, .int .i64 x.Uses] ∧ SlOwn strR 9 w S0 v0 x.Names ∧ (∀ g, S0 g → S g) := by
  obtain ⟨_, _, U0, T0, rfl, ⟨rfl, -⟩, ⟨_, _, U1, T1, rfl, ⟨rfl, -⟩, ⟨_, _, U2, T2, rfl, ⟨v0, rfl, h0⟩, ⟨_, _, U3, T3, rfl, ⟨rfl, -⟩, ⟨_, _, U4, T4, rfl, ⟨rfl, -⟩, ⟨_, _, U5, T5, rfl, ⟨rfl, -⟩, ⟨rfl, -⟩, a5, d5⟩, a4, d4⟩, a3, d3⟩, a2, d2⟩, a1, d1⟩, a0, d0⟩ := h
  exact ⟨v0, U2, rfl, h0, (fun g hg => (d0 g (d1 g (a2 g hg).1)))⟩
theorem of_own_Token {w : World} {S : Nat → Prop} {x : Token} {v0 : Value} {S0 : Nat → Prop} (h0 : SlOwn strR 9 w S0 v0 x.Names) (s0 : ∀ g, S0 g → S g) : TokenR.Own w S [.int .i64 x.Id, .int .i64 x.Parent, v0, .int .i64 x.Made, .int .i64 x.Ends, .int .i64 x.Limit, .int .i64 x.Uses] x := ⟨[_], _, fun _ => False, S, rfl, ⟨rfl, trivial⟩, ⟨[_], _, fun _ => False, S, rfl, ⟨rfl, trivial⟩, ⟨[_], _, S0, fun _ => False, rfl, ⟨_, rfl, h0⟩, ⟨[_], _, fun _ => False, fun _ => False, rfl, ⟨rfl, trivial⟩, ⟨[_], _, fun _ => False, fun _ => False, rfl, ⟨rfl, trivial⟩, ⟨[_], _, fun _ => False, fun _ => False, rfl, ⟨rfl, trivial⟩, ⟨rfl, trivial⟩, (fun g hg => hg.elim), (fun g hg => hg.elim)⟩, (fun g hg => hg.elim), (fun g hg => hg.elim)⟩, (fun g hg => hg.elim), (fun g hg => hg.elim)⟩, (fun g hg => ⟨s0 g hg, fun h => h⟩), (fun g hg => hg.elim)⟩, (fun g hg => hg.elim), (fun g hg => hg)⟩, (fun g hg => hg.elim), (fun g hg => hg)⟩
theorem sz_Token (x : Token) : TokenR.sz x = szList strR x.Names := by simp [TokenR, Rep.as, Rep.pair, Rep.sl, intR, Rep.flat]
def Token.markTop (k : Nat) (x : Token) : Token := { x with Names := mkList strR (k) x.Names }
def Token.cntTop (x : Token) : Nat := cntList strR x.Names
theorem cnt_bd_Token (x : Token) : x.cntTop ≤ 16 * TokenR.sz x := by
  have h0 := cnt_bd_StringS x.Names
  rw [sz_Token]
  show cntList strR x.Names ≤ _
  omega
end Go.Proofs.Ytcfhnhhgnophhaa

/- Contracts of the helpers on Record (printed by wip/gen/gen2.py). -/
import Derived.Test.YtndgaakfndokgaaIntS2
import Derived.Test.YtndgaakfndokgaaStringS2
set_option linter.unusedSimpArgs false
set_option linter.unusedVariables false
set_option maxRecDepth 20000
namespace Go.Proofs.Ytndgaakfndokgaa
open Go.RowKit
structure Record where
  Kind : Int
  Nums : List Int
  Texts : List ByteArray
  deriving DecidableEq
def RecordR : Rep Record := (Rep.pair intR (Rep.pair (intR.sl 3) (strR.sl 9))).as (fun x => (x.Kind, x.Nums, x.Texts)) (fun p => ⟨p.1, p.2.1, p.2.2⟩)
theorem rd_Record {w : World} {B : Nat} {cs : List Value} {x : Record} (h : RecordR.Rd w B cs x) : ∃ v0 v1, cs = [.int .i64 x.Kind, v0, v1] ∧ SlRd intR w B v0 x.Nums ∧ SlRd strR w B v1 x.Texts := by
  obtain ⟨_, _, rfl, ⟨rfl, -⟩, ⟨_, _, rfl, ⟨v0, rfl, h0⟩, ⟨v1, rfl, h1⟩⟩⟩ := h
  exact ⟨v0, v1, rfl, h0, h1⟩
theorem of_rd_Record {w : World} {B : Nat} {x : Record} {v0 v1 : Value} (h0 : SlRd intR w B v0 x.Nums) (h1 : SlRd strR w B v1 x.Texts) : RecordR.Rd w B [.int .i64 x.Kind, v0, v1] x := ⟨[_], _, rfl, ⟨rfl, trivial⟩, ⟨[_], _, rfl, ⟨_, rfl, h0⟩, ⟨_, rfl, h1⟩⟩⟩
theorem own_Record {w : World} {S : Nat → Prop} {cs : List Value} {x : Record} (h : RecordR.Own w S cs x) : ∃ v0 v1, ∃ S0 S1 : Nat → Prop, cs = [.int .i64 x.Kind, v0, v1] ∧ SlOwn intR 3 w S0 v0 x.Nums ∧ SlOwn strR 9 w S1 v1 x.Texts ∧ (∀ g, S0 g → S g) ∧ (∀ g, S1 g → S g) ∧ (∀ g, S0 g → ¬ S1 g) := by
  obtain ⟨_, _, U0, T0, rfl, ⟨rfl, -⟩, ⟨_, _, U1, T1, rfl, ⟨v0, rfl, h0⟩, ⟨v1, rfl, h1⟩, a1, d1⟩, a0, d0⟩ := h
  exact ⟨v0, v1, U1, T1, rfl, h0, h1, (fun g hg => (d0 g (a1 g hg).1)), (fun g hg => (d0 g (d1 g hg))), (fun g hg hg' => (a1 g hg).2 hg')⟩
theorem of_own_Record {w : World} {S : Nat → Prop} {x : Record} {v0 v1 : Value} {S0 S1 : Nat → Prop} (h0 : SlOwn intR 3 w S0 v0 x.Nums) (h1 : SlOwn strR 9 w S1 v1 x.Texts) (s0 : ∀ g, S0 g → S g) (s1 : ∀ g, S1 g → S g) (ds : ∀ g, S0 g → ¬ S1 g) : RecordR.Own w S [.int .i64 x.Kind, v0, v1] x := ⟨[_], _, fun _ => False, S, rfl, ⟨rfl, trivial⟩, ⟨[_], _, S0, S1, rfl, ⟨_, rfl, h0⟩, ⟨_, rfl, h1⟩, (fun g hg => ⟨s0 g hg, ds g hg⟩), s1⟩, (fun g hg => hg.elim), (fun g hg => hg)⟩
theorem sz_Record (x : Record) : RecordR.sz x = szList intR x.Nums + szList strR x.Texts := by simp [RecordR, Rep.as, Rep.pair, Rep.sl, intR, Rep.flat]
def Record.markTop (k : Nat) (x : Record) : Record := { x with Nums := mkList intR (k) x.Nums, Texts := mkList strR (k + cntList intR x.Nums) x.Texts }
def Record.cntTop (x : Record) : Nat := cntList intR x.Nums + cntList strR x.Texts
theorem cnt_bd_Record (x : Record) : x.cntTop ≤ 16 * RecordR.sz x := by
  have h0 := cnt_bd_IntS x.Nums
  have h1 := cnt_bd_StringS x.Texts
  rw [sz_Record]
  show cntList intR x.Nums + cntList strR x.Texts ≤ _
  omega
end Go.Proofs.Ytndgaakfndokgaa

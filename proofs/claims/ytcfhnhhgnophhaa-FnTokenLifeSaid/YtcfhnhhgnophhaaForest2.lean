/- Contracts of the helpers on Forest (printed by wip/gen/gen2.py). -/
import Derived.Test.YtcfhnhhgnophhaaTokenS2
set_option linter.unusedSimpArgs false
set_option linter.unusedVariables false
set_option maxRecDepth 20000
namespace Go.Proofs.Ytcfhnhhgnophhaa
open Go.RowKit
structure Forest where
  Tokens : List Token
  deriving DecidableEq
def ForestR : Rep Forest := (TokenR.sl 35).as (fun x => x.Tokens) (fun p => ⟨p⟩)
theorem rd_Forest {w : World} {B : Nat} {cs : List Value} {x : Forest} (h : ForestR.Rd w B cs x) : ∃ v0, cs = [v0] ∧ SlRd TokenR w B v0 x.Tokens := by
  obtain ⟨v0, rfl, h0⟩ := h
  exact ⟨v0, rfl, h0⟩
theorem of_rd_Forest {w : World} {B : Nat} {x : Forest} {v0 : Value} (h0 : SlRd TokenR w B v0 x.Tokens) : ForestR.Rd w B [v0] x := ⟨_, rfl, h0⟩
theorem own_Forest {w : World} {S : Nat → Prop} {cs : List Value} {x : Forest} (h : ForestR.Own w S cs x) : ∃ v0, ∃ S0 : Nat → Prop, cs = [v0] ∧ SlOwn TokenR 35 w S0 v0 x.Tokens ∧ (∀ g, S0 g → S g) := by
  obtain ⟨v0, rfl, h0⟩ := h
  exact ⟨v0, S, rfl, h0, (fun g hg => hg)⟩
theorem of_own_Forest {w : World} {S : Nat → Prop} {x : Forest} {v0 : Value} {S0 : Nat → Prop} (h0 : SlOwn TokenR 35 w S0 v0 x.Tokens) (s0 : ∀ g, S0 g → S g) : ForestR.Own w S [v0] x := ⟨_, rfl, h0.wide s0⟩
theorem sz_Forest (x : Forest) : ForestR.sz x = szList TokenR x.Tokens := by simp [ForestR, Rep.as, Rep.pair, Rep.sl, intR, Rep.flat]
def Forest.markTop (k : Nat) (x : Forest) : Forest := { x with Tokens := mkList TokenR (k) x.Tokens }
def Forest.cntTop (x : Forest) : Nat := cntList TokenR x.Tokens
theorem cnt_bd_Forest (x : Forest) : x.cntTop ≤ 16 * ForestR.sz x := by
  have h0 := cnt_bd_TokenS x.Tokens
  rw [sz_Forest]
  show cntList TokenR x.Tokens ≤ _
  omega
end Go.Proofs.Ytcfhnhhgnophhaa

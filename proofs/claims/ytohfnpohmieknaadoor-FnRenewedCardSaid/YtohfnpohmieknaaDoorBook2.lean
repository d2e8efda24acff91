/- Contracts of the helpers on Book (printed by wip/gen/gen2.py). -/
import Derived.Test.YtohfnpohmieknaaDoorLeaseS2
set_option linter.unusedSimpArgs false
set_option linter.unusedVariables false
set_option maxRecDepth 20000
namespace Go.Proofs.YtohfnpohmieknaaDoor
open Go.RowKit
structure Book where
  Leases : List Lease
  deriving DecidableEq
def BookR : Rep Book := (LeaseR.sl 32).as (fun x => x.Leases) (fun p => ⟨p⟩)
theorem rd_Book {w : World} {B : Nat} {cs : List Value} {x : Book} (h : BookR.Rd w B cs x) : ∃ v0, cs = [v0] ∧ SlRd LeaseR w B v0 x.Leases := by
  obtain ⟨v0, rfl, h0⟩ := h
  exact ⟨v0, rfl, h0⟩
theorem of_rd_Book {w : World} {B : Nat} {x : Book} {v0 : Value} (h0 : SlRd LeaseR w B v0 x.Leases) : BookR.Rd w B [v0] x := ⟨_, rfl, h0⟩
theorem own_Book {w : World} {S : Nat → Prop} {cs : List Value} {x : Book} (h : BookR.Own w S cs x) : ∃ v0, ∃ S0 : Nat → Prop, cs = [v0] ∧ SlOwn LeaseR 32 w S0 v0 x.Leases ∧ (∀ g, S0 g → S g) := by
  obtain ⟨v0, rfl, h0⟩ := h
  exact ⟨v0, S, rfl, h0, (fun g hg => hg)⟩
theorem of_own_Book {w : World} {S : Nat → Prop} {x : Book} {v0 : Value} {S0 : Nat → Prop} (h0 : SlOwn LeaseR 32 w S0 v0 x.Leases) (s0 : ∀ g, S0 g → S g) : BookR.Own w S [v0] x := ⟨_, rfl, h0.wide s0⟩
theorem sz_Book (x : Book) : BookR.sz x = szList LeaseR x.Leases := by simp [BookR, Rep.as, Rep.pair, Rep.sl, intR, Rep.flat]
def Book.markTop (k : Nat) (x : Book) : Book := { x with Leases := mkList LeaseR (k) x.Leases }
def Book.cntTop (x : Book) : Nat := cntList LeaseR x.Leases
theorem cnt_bd_Book (x : Book) : x.cntTop ≤ 16 * BookR.sz x := by
  have h0 := cnt_bd_LeaseS x.Leases
  rw [sz_Book]
  show cntList LeaseR x.Leases ≤ _
  omega
end Go.Proofs.YtohfnpohmieknaaDoor

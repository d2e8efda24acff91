/- Contracts of the helpers on Disk (printed by wip/gen/gen2.py). -/
import Derived.Test.YtndgaakfndokgaaByteS2
set_option linter.unusedSimpArgs false
set_option linter.unusedVariables false
set_option maxRecDepth 20000
namespace Go.Proofs.Ytndgaakfndokgaa
open Go.RowKit
structure Disk where
  Safe : List UInt8
  Loose : List UInt8
  deriving DecidableEq
def DiskR : Rep Disk := (Rep.pair (byteR.sl 5) (byteR.sl 5)).as (fun x => (x.Safe, x.Loose)) (fun p => ⟨p.1, p.2⟩)
theorem rd_Disk {w : World} {B : Nat} {cs : List Value} {x : Disk} (h : DiskR.Rd w B cs x) : ∃ v0 v1, cs = [v0, v1] ∧ SlRd byteR w B v0 x.Safe ∧ SlRd byteR w B v1 x.Loose := by
  obtain ⟨_, _, rfl, ⟨v0, rfl, h0⟩, ⟨v1, rfl, h1⟩⟩ := h
  exact ⟨v0, v1, rfl, h0, h1⟩
theorem of_rd_Disk {w : World} {B : Nat} {x : Disk} {v0 v1 : Value} (h0 : SlRd byteR w B v0 x.Safe) (h1 : SlRd byteR w B v1 x.Loose) : DiskR.Rd w B [v0, v1] x := ⟨[_], _, rfl, ⟨_, rfl, h0⟩, ⟨_, rfl, h1⟩⟩
theorem own_Disk {w : World} {S : Nat → Prop} {cs : List Value} {x : Disk} (h : DiskR.Own w S cs x) : ∃ v0 v1, ∃ S0 S1 : Nat → Prop, cs = [v0, v1] ∧ SlOwn byteR 5 w S0 v0 x.Safe ∧ SlOwn byteR 5 w S1 v1 x.Loose ∧ (∀ g, S0 g → S g) ∧ (∀ g, S1 g → S g) ∧ (∀ g, S0 g → ¬ S1 g) := by
  obtain ⟨_, _, U0, T0, rfl, ⟨v0, rfl, h0⟩, ⟨v1, rfl, h1⟩, a0, d0⟩ := h
  exact ⟨v0, v1, U0, T0, rfl, h0, h1, (fun g hg => (a0 g hg).1), (fun g hg => (d0 g hg)), (fun g hg hg' => (a0 g hg).2 hg')⟩
theorem of_own_Disk {w : World} {S : Nat → Prop} {x : Disk} {v0 v1 : Value} {S0 S1 : Nat → Prop} (h0 : SlOwn byteR 5 w S0 v0 x.Safe) (h1 : SlOwn byteR 5 w S1 v1 x.Loose) (s0 : ∀ g, S0 g → S g) (s1 : ∀ g, S1 g → S g) (ds : ∀ g, S0 g → ¬ S1 g) : DiskR.Own w S [v0, v1] x := ⟨[_], _, S0, S1, rfl, ⟨_, rfl, h0⟩, ⟨_, rfl, h1⟩, (fun g hg => ⟨s0 g hg, ds g hg⟩), s1⟩
theorem sz_Disk (x : Disk) : DiskR.sz x = szList byteR x.Safe + szList byteR x.Loose := by simp [DiskR, Rep.as, Rep.pair, Rep.sl, intR, Rep.flat]
def Disk.markTop (k : Nat) (x : Disk) : Disk := { x with Safe := mkList byteR (k) x.Safe, Loose := mkList byteR (k + cntList byteR x.Safe) x.Loose }
def Disk.cntTop (x : Disk) : Nat := cntList byteR x.Safe + cntList byteR x.Loose
theorem cnt_bd_Disk (x : Disk) : x.cntTop ≤ 16 * DiskR.sz x := by
  have h0 := cnt_bd_ByteS x.Safe
  have h1 := cnt_bd_ByteS x.Loose
  rw [sz_Disk]
  show cntList byteR x.Safe + cntList byteR x.Loose ≤ _
  omega
end Go.Proofs.Ytndgaakfndokgaa

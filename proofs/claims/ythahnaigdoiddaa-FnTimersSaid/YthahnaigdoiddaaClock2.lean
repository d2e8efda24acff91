/- Contracts of the helpers on Clock (printed by wip/gen/gen2.py). -/
import Derived.Test.YthahnaigdoiddaaTimerS2
set_option linter.unusedSimpArgs false
set_option linter.unusedVariables false
set_option maxRecDepth 20000
namespace Go.Proofs.Ythahnaigdoiddaa
open Go.RowKit
structure Clock where
  Now : Int
  Timers : List Timer
  deriving DecidableEq
def ClockR : Rep Clock := (Rep.pair intR (TimerR.sl 52)).as (fun x => (x.Now, x.Timers)) (fun p => ⟨p.1, p.2⟩)
theorem rd_Clock {w : World} {B : Nat} {cs : List Value} {x : Clock} (h : ClockR.Rd w B cs x) : ∃ v0, cs = [.int .i64 x.Now, v0] ∧ SlRd TimerR w B v0 x.Timers := by
  obtain ⟨_, _, rfl, ⟨rfl, -⟩, ⟨v0, rfl, h0⟩⟩ := h
  exact ⟨v0, rfl, h0⟩
theorem of_rd_Clock {w : World} {B : Nat} {x : Clock} {v0 : Value} (h0 : SlRd TimerR w B v0 x.Timers) : ClockR.Rd w B [.int .i64 x.Now, v0] x := ⟨[_], _, rfl, ⟨rfl, trivial⟩, ⟨_, rfl, h0⟩⟩
theorem own_Clock {w : World} {S : Nat → Prop} {cs : List Value} {x : Clock} (h : ClockR.Own w S cs x) : ∃ v0, ∃ S0 : Nat → Prop, cs = [.int .i64 x.Now, v0] ∧ SlOwn TimerR 52 w S0 v0 x.Timers ∧ (∀ g, S0 g → S g) := by
  obtain ⟨_, _, U0, T0, rfl, ⟨rfl, -⟩, ⟨v0, rfl, h0⟩, a0, d0⟩ := h
  exact ⟨v0, T0, rfl, h0, (fun g hg => (d0 g hg))⟩
theorem of_own_Clock {w : World} {S : Nat → Prop} {x : Clock} {v0 : Value} {S0 : Nat → Prop} (h0 : SlOwn TimerR 52 w S0 v0 x.Timers) (s0 : ∀ g, S0 g → S g) : ClockR.Own w S [.int .i64 x.Now, v0] x := ⟨[_], _, fun _ => False, S, rfl, ⟨rfl, trivial⟩, ⟨_, rfl, h0.wide s0⟩, (fun g hg => hg.elim), (fun g hg => hg)⟩
theorem sz_Clock (x : Clock) : ClockR.sz x = szList TimerR x.Timers := by simp [ClockR, Rep.as, Rep.pair, Rep.sl, intR, Rep.flat]
def Clock.markTop (k : Nat) (x : Clock) : Clock := { x with Timers := mkList TimerR (k) x.Timers }
def Clock.cntTop (x : Clock) : Nat := cntList TimerR x.Timers
theorem cnt_bd_Clock (x : Clock) : x.cntTop ≤ 16 * ClockR.sz x := by
  have h0 := cnt_bd_TimerS x.Timers
  rw [sz_Clock]
  show cntList TimerR x.Timers ≤ _
  omega
end Go.Proofs.Ythahnaigdoiddaa

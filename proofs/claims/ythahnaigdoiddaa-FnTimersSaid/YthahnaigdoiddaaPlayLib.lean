/- Small facts for PlayClock. -/
import Derived.Test.YthahnaigdoiddaaPurePlay
import Derived.Test.YthahnaigdoiddaaAppend
import Derived.Test.YthahnaigdoiddaaAdvL
set_option linter.unusedSimpArgs false
set_option linter.unusedVariables false
set_option maxRecDepth 20000
namespace Go.Proofs.Ythahnaigdoiddaa
open Go.RowKit
theorem op_elem {w : World} {B n c k : Nat} {A : Option Addr} {ops : List ClockOp} {op : ClockOp} (h : SlRd ClockOpR w B (.slice A n c) ops) (ho : ops[k]? = some op) :
    ∃ b off, A = some ⟨b, off, none⟩ ∧ b < B ∧ w.cell? ⟨b, off + k * 3, none⟩ = some (.int .i64 op.Kind) ∧ w.cell? ⟨b, off + k * 3 + 1, none⟩ = some (.int .i64 op.Id) ∧ w.cell? ⟨b, off + k * 3 + 2, none⟩ = some (.int .i64 op.At) := by
  obtain ⟨b, off, cs, rfl, hab, hrd, hcell⟩ := h.elem ho
  obtain rfl := rd_ClockOp hrd
  exact ⟨b, off, rfl, hab, hcell 0 _ rfl, hcell 1 _ rfl, hcell 2 _ rfl⟩
theorem ClkIn.of_own {w : World} {base : Nat} {X : Nat → Prop} {A : Option Addr} {n d : Nat} {ts : List Timer} (h : w.ownsRow base 52 2 (.slice A n d) n (ts.flatMap Timer.cells)) (hn : ts.length = n) (hX : ∀ b, X b → b < base) : ClkIn w X A d ts := by
  subst hn
  refine ClkIn.of_sl (of_own_TimerS h) (fun g hg hx => ?_) (fun g hg => (h.lt g hg).2)
  have h1 := (h.lt g hg).1
  have h2 := hX g hx
  omega
theorem set_now (c : Clock) (id at_ : Int) : (setC c id at_).Now = c.Now := by unfold setC; cases setB c id at_ <;> rfl
theorem stop_now (c : Clock) (id : Int) : (stopC c id).Now = c.Now := by unfold stopC; cases stopB c id <;> rfl
/-- The two parts of a pair, apart from what lies below. -/
theorem PairC.clk {w : World} {lo : Nat} {now : Int} {A : Option Addr} {n d : Nat} {c : Clock} {v : Value} {ys : List Int} (h : PairC w lo [.int .i64 now, .slice A n d] c v ys) {X : Nat → Prop} (hX : ∀ b, X b → b < lo) : ClkIn w X A d c.Timers ∧ c.Timers.length = n := by
  obtain ⟨Sa, Sb, h1, _, sa, _, _⟩ := h
  obtain ⟨v0, S0, e, q, hs⟩ := own_Clock h1
  injection e with e1 e2
  injection e2 with e2 e3
  subst e2
  obtain ⟨A', d', e4⟩ := q.form
  injection e4 with e5 e6 e7
  refine ⟨ClkIn.of_sl q (fun g hg hx => ?_) (fun g hg => (sa g (hs g hg)).2), e6.symm⟩
  have := (sa g (hs g hg)).1
  have := hX g hx
  omega
theorem PairC.ids {w : World} {lo : Nat} {cs : List Value} {B : Option Addr} {m d : Nat} {c : Clock} {ys : List Int} (h : PairC w lo cs c (.slice B m d) ys) : Reads w w.heap.size B (ys.map intV) ∧ ys.length = m := by
  obtain ⟨Sa, Sb, _, h1, _, sb, _⟩ := h
  obtain ⟨e, h2, _⟩ := rd_IntS (h1.rd (fun g hg => (sb g hg).2))
  exact ⟨h2, e.symm⟩
end Go.Proofs.Ythahnaigdoiddaa

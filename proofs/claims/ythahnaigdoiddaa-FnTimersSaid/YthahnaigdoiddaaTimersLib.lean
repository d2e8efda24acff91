/- What FnTimers calls, of a clock that is read apart from some blocks. -/
import Derived.Test.YthahnaigdoiddaaPureTimers
import Derived.Test.YthahnaigdoiddaaPlayLib
import Derived.Test.YthahnaigdoiddaaSpecPlay
import Derived.Test.YthahnaigdoiddaaSetL
import Derived.Test.YthahnaigdoiddaaStopTimer
import Derived.Test.YthahnaigdoiddaaImplTimerQ
import Derived.Test.YthahnaigdoiddaaSameInts
set_option linter.unusedSimpArgs false
set_option linter.unusedVariables false
set_option maxRecDepth 20000
namespace Go.Proofs.Ythahnaigdoiddaa
open Go.RowKit
theorem sz_ops (xs : List ClockOp) : szList ClockOpR xs = xs.length := by
  have key : ∀ ys : List ClockOp, (ys.map ClockOpR.sz).sum = 0 := by
    intro ys
    induction ys with
    | nil => rfl
    | cons y ys ih => rw [List.map_cons, List.sum_cons, ih]; rfl
  have := key xs
  unfold szList; omega
def Low (n : Nat) (g : Nat) : Prop := g < n
theorem timerAt_in {X : Nat → Prop} {A : Option Addr} {n d : Nat} {c : Clock} (id : Int) (w : World) (h : ClkIn w X A d c.Timers) (hn : c.Timers.length = n) (hm : clockOk c.Now c.Timers = true) :
    Calls Try.prog 7 #[.agg #[.int .i64 c.Now, .slice A n d], .int .i64 id] w fun e w' => e = .returned (.int .i64 (timerAtF c.Now c.Timers id)) ∧ Below w.heap.size w w' := by
  subst hn
  exact impl_TimerAt c.Now A d c.Timers id w h.1 (by have := clock_len300 hm; omega) h.2.1
theorem dueBy_in {X : Nat → Prop} {A : Option Addr} {n d : Nat} {c : Clock} (x : Int) (w : World) (h : ClkIn w X A d c.Timers) (hn : c.Timers.length = n) (hm : clockOk c.Now c.Timers = true) :
    Calls Try.prog 9 #[.agg #[.int .i64 c.Now, .slice A n d], .int .i64 x] w fun e w' => e = .returned (.int .i64 (dueByF c.Now c.Timers x)) ∧ Below w.heap.size w w' := by
  subst hn
  exact impl_DueBy c.Now A d c.Timers x w h.1 (by have := clock_len300 hm; omega) h.2.1
theorem nextDue_in {X : Nat → Prop} {A : Option Addr} {n d : Nat} {c : Clock} (w : World) (h : ClkIn w X A d c.Timers) (hn : c.Timers.length = n) (hm : clockOk c.Now c.Timers = true) :
    Calls Try.prog 11 #[.agg #[.int .i64 c.Now, .slice A n d]] w fun e w' => e = .returned (.int .i64 (nextDueF c.Now c.Timers)) ∧ Below w.heap.size w w' := by
  subst hn
  exact impl_NextDue c.Now A d c.Timers w h.1 (by have := clock_len300 hm; omega) h.2.1
theorem own_clk {w : World} {lo : Nat} {cs : List Value} {c : Clock} (h : ClockR.Own w (InR lo w.heap.size) cs c) : ∃ D dd, cs = [.int .i64 c.Now, .slice D c.Timers.length dd] ∧ ClkIn w (Low lo) D dd c.Timers := by
  obtain ⟨v, S, rfl, q, hS⟩ := own_Clock h
  obtain ⟨D, dd, rfl⟩ := q.form
  refine ⟨D, dd, rfl, ClkIn.of_sl q (fun g hg hx => ?_) (fun g hg => (hS g hg).2)⟩
  have h1 := (hS g hg).1
  have h2 : g < lo := hx
  omega
theorem set_in {X : Nat → Prop} {A : Option Addr} {n d : Nat} {c : Clock} (id at_ : Int) (w : World) (h : ClkIn w X A d c.Timers) (hn : c.Timers.length = n) (hm : clockOk c.Now c.Timers = true) :
    Calls Try.prog 6 #[.agg #[.int .i64 c.Now, .slice A n d], .int .i64 id, .int .i64 at_] w fun e w' => ∃ D dd, e = .returned (.tuple #[.agg #[.int .i64 (setC c id at_).Now, .slice D (setC c id at_).Timers.length dd], .bool (setB c id at_)]) ∧ ClkIn w' (Low w.heap.size) D dd (setC c id at_).Timers ∧ Below w.heap.size w w' := by
  refine (impl_SetTimerL [.int .i64 c.Now, .slice A n d] c id at_ w (h.rd hn) (clock_sz hm)).mono ?_
  rintro e w' ⟨cs, rfl, ho, hb⟩
  obtain ⟨D, dd, rfl, h1⟩ := own_clk ho
  exact ⟨D, dd, rfl, h1, hb⟩
theorem stop_in {X : Nat → Prop} {A : Option Addr} {n d : Nat} {c : Clock} (id : Int) (w : World) (h : ClkIn w X A d c.Timers) (hn : c.Timers.length = n) (hm : clockOk c.Now c.Timers = true) :
    Calls Try.prog 8 #[.agg #[.int .i64 c.Now, .slice A n d], .int .i64 id] w fun e w' => ∃ D dd, e = .returned (.tuple #[.agg #[.int .i64 (stopC c id).Now, .slice D (stopC c id).Timers.length dd], .bool (stopB c id)]) ∧ ClkIn w' (Low w.heap.size) D dd (stopC c id).Timers ∧ Below w.heap.size w w' := by
  refine (impl_StopTimerL [.int .i64 c.Now, .slice A n d] c id w (h.rd hn) (clock_sz hm)).mono ?_
  rintro e w' ⟨cs, rfl, ho, hb⟩
  obtain ⟨D, dd, rfl, h1⟩ := own_clk ho
  exact ⟨D, dd, rfl, h1, hb⟩
theorem adv_in {X : Nat → Prop} {A : Option Addr} {n d : Nat} {c : Clock} (now : Int) (w : World) (h : ClkIn w X A d c.Timers) (hn : c.Timers.length = n) (hm : clockOk c.Now c.Timers = true) :
    Calls Try.prog 10 #[.agg #[.int .i64 c.Now, .slice A n d], .int .i64 now] w fun e w' => ∃ D dd DB db, e = .returned (.tuple #[.agg #[.int .i64 (advC c now).Now, .slice D (advC c now).Timers.length dd], .slice DB (advI c now).length db]) ∧ ClkIn w' (Low w.heap.size) D dd (advC c now).Timers ∧ RdIn w' (Low w.heap.size) DB ((advI c now).map intV) ∧ Below w.heap.size w w' := by
  refine (impl_AdvanceL [.int .i64 c.Now, .slice A n d] c now w (h.rd hn) (clock_sz hm)).mono ?_
  rintro e w' ⟨cs, v, rfl, hp, hb⟩
  obtain ⟨Sa, Sb, h1, h2, sa, sb, ap⟩ := id hp
  obtain ⟨DB, db, rfl⟩ := h2.form
  obtain ⟨D, dd, rfl, h3⟩ := own_clk (ClockR.own_wide h1 sa)
  exact ⟨D, dd, DB, db, rfl, h3, hp.rdin (fun b h => h), hb⟩
end Go.Proofs.Ythahnaigdoiddaa

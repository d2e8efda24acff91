/- PlayClock as plain data; a clock that is read from memory apart from a set of blocks. -/
import Derived.Test.YthahnaigdoiddaaPureSet2
import Derived.Test.YthahnaigdoiddaaPairC
import Derived.Test.YthahnaigdoiddaaClockOpS2
set_option linter.unusedSimpArgs false
set_option linter.unusedVariables false
set_option maxRecDepth 20000
namespace Go.Proofs.Ythahnaigdoiddaa
open Go.RowKit
def opsOk (c : Clock) (ops : List ClockOp) : Bool := clockOk c.Now c.Timers && decide (ops.length ≤ 200)
def stepP (p : Clock × List Int) (op : ClockOp) : Clock × List Int := match op.Kind == 0 with
  | true => (setC p.1 op.Id op.At, p.2)
  | false => match op.Kind == 1 with
    | true => (stopC p.1 op.Id, p.2)
    | false => match op.Kind == 2 with
      | true => (advC p.1 op.At, p.2 ++ advI p.1 op.At)
      | false => p
def runP (c : Clock) (ops : List ClockOp) : Clock × List Int := ops.foldl stepP (c, [])
def playC (c : Clock) (ops : List ClockOp) : Clock := match opsOk c ops with | true => (runP c ops).1 | false => c
def playI (c : Clock) (ops : List ClockOp) : List Int := match opsOk c ops with | true => (runP c ops).2 | false => []
theorem play_no {c : Clock} {ops : List ClockOp} (h : opsOk c ops = false) : playC c ops = c ∧ playI c ops = [] := by unfold playC playI; rw [h]; exact ⟨rfl, rfl⟩
theorem play_yes {c : Clock} {ops : List ClockOp} (h : opsOk c ops = true) : playC c ops = (runP c ops).1 ∧ playI c ops = (runP c ops).2 := by unfold playC playI; rw [h]; exact ⟨rfl, rfl⟩
theorem opsOk_bad {c : Clock} {ops : List ClockOp} (h : clockOk c.Now c.Timers = false) : opsOk c ops = false := by unfold opsOk; rw [h]; rfl
theorem opsOk_long {c : Clock} {ops : List ClockOp} (h : ¬ ops.length ≤ 200) : opsOk c ops = false := by unfold opsOk; rw [decide_eq_false h, Bool.and_false]
theorem opsOk_yes {c : Clock} {ops : List ClockOp} (h : clockOk c.Now c.Timers = true) (h2 : ops.length ≤ 200) : opsOk c ops = true := by unfold opsOk; rw [h, decide_eq_true h2]; rfl
theorem run_zero (c : Clock) (ops : List ClockOp) : runP c (ops.take 0) = (c, []) := rfl
theorem run_snoc {c : Clock} {ops : List ClockOp} {k : Nat} {op : ClockOp} (h : ops[k]? = some op) : runP c (ops.take (k + 1)) = stepP (runP c (ops.take k)) op := by
  unfold runP
  rw [take_snoc h, List.foldl_append]
  rfl
theorem step_set {p : Clock × List Int} {op : ClockOp} (h : (op.Kind == 0) = true) : stepP p op = (setC p.1 op.Id op.At, p.2) := by unfold stepP; rw [h]
theorem step_stop {p : Clock × List Int} {op : ClockOp} (h : (op.Kind == 0) = false) (h2 : (op.Kind == 1) = true) : stepP p op = (stopC p.1 op.Id, p.2) := by unfold stepP; rw [h, h2]
theorem step_adv {p : Clock × List Int} {op : ClockOp} (h : (op.Kind == 0) = false) (h2 : (op.Kind == 1) = false) (h3 : (op.Kind == 2) = true) : stepP p op = (advC p.1 op.At, p.2 ++ advI p.1 op.At) := by unfold stepP; rw [h, h2, h3]
theorem step_no {p : Clock × List Int} {op : ClockOp} (h : (op.Kind == 0) = false) (h2 : (op.Kind == 1) = false) (h3 : (op.Kind == 2) = false) : stepP p op = p := by unfold stepP; rw [h, h2, h3]
theorem setC_ok {c : Clock} (id at_ : Int) (h : clockOk c.Now c.Timers = true) : clockOk (setC c id at_).Now (setC c id at_).Timers = true := by
  cases hb : setB c id at_
  · rw [setC_no hb]; exact h
  · rw [setC_yes hb]
    unfold setB at hb
    rw [Bool.and_eq_true] at hb
    exact hb.2
theorem stopC_ok {c : Clock} (id : Int) (h : clockOk c.Now c.Timers = true) : clockOk (stopC c id).Now (stopC c id).Timers = true := by
  cases hb : stopB c id
  · rw [stopC_no hb]; exact h
  · rw [stopC_yes hb]
    exact clockOk_sub h (without_sub _ _) (clock_now h)
theorem advC_ok {c : Clock} (now : Int) (h : clockOk c.Now c.Timers = true) : clockOk (advC c now).Now (advC c now).Timers = true := by
  cases hb : advB c now
  · rw [(adv_no hb).1]; exact h
  · rw [(adv_yes hb).1]
    refine clockOk_sub h List.filter_sublist ?_
    unfold advB at hb
    rw [Bool.and_eq_true] at hb
    have h1 := withinB_iff.1 hb.2
    have h2 := withinB_iff.1 (clock_now h)
    have h3 : (0 : Int) ≤ now := by omega
    exact withinB_iff.2 ⟨h3, h1.2⟩
theorem step_ok {p : Clock × List Int} (op : ClockOp) (h : clockOk p.1.Now p.1.Timers = true) : clockOk (stepP p op).1.Now (stepP p op).1.Timers = true := by
  unfold stepP
  cases op.Kind == 0
  · cases op.Kind == 1
    · cases op.Kind == 2
      · exact h
      · exact advC_ok _ h
    · exact stopC_ok _ h
  · exact setC_ok _ _ h
theorem run_ok {c : Clock} (ops : List ClockOp) (h : clockOk c.Now c.Timers = true) : ∀ k, clockOk (runP c (ops.take k)).1.Now (runP c (ops.take k)).1.Timers = true
  | 0 => h
  | k + 1 => by
    cases hk : ops[k]? with
    | none =>
      have := List.getElem?_eq_none_iff.1 hk
      rw [List.take_of_length_le (by omega), ← List.take_of_length_le (i := k) (l := ops) (by omega)]
      exact run_ok ops h k
    | some op => rw [run_snoc hk]; exact step_ok op (run_ok ops h k)
theorem clock_len300 {now : Int} {ts : List Timer} (h : clockOk now ts = true) : ts.length ≤ 300 := (clockOk_iff.1 h).2.1
theorem advI_len300 {c : Clock} (now : Int) (h : clockOk c.Now c.Timers = true) : (advI c now).length ≤ 300 := Nat.le_trans (advI_len c now) (clock_len300 h)
theorem clock_sz {c : Clock} (h : clockOk c.Now c.Timers = true) : ClockR.sz c ≤ 1048576 := by
  rw [sz_Clock, sz_TimerS]
  have := clock_len300 h
  omega
theorem step_told {p : Clock × List Int} (op : ClockOp) (h : clockOk p.1.Now p.1.Timers = true) : (stepP p op).2.length ≤ p.2.length + 300 := by
  unfold stepP
  cases op.Kind == 0
  · cases op.Kind == 1
    · cases op.Kind == 2
      · exact Nat.le_add_right _ _
      · have := advI_len300 op.At h
        simp only [List.length_append]
        omega
    · exact Nat.le_add_right _ _
  · exact Nat.le_add_right _ _
theorem run_told {c : Clock} (ops : List ClockOp) (h : clockOk c.Now c.Timers = true) : ∀ k, (runP c (ops.take k)).2.length ≤ 300 * k
  | 0 => Nat.le_refl _
  | k + 1 => by
    have ih := run_told ops h k
    cases hk : ops[k]? with
    | none =>
      have := List.getElem?_eq_none_iff.1 hk
      rw [List.take_of_length_le (by omega), ← List.take_of_length_le (i := k) (l := ops) (by omega)]
      omega
    | some op =>
      rw [run_snoc hk]
      have := step_told op (run_ok ops h k)
      omega
theorem playC_len {c : Clock} (ops : List ClockOp) : (playC c ops).Timers.length ≤ c.Timers.length + 300 := by
  cases h : opsOk c ops
  · rw [(play_no h).1]; omega
  · rw [(play_yes h).1]
    unfold opsOk at h
    rw [Bool.and_eq_true] at h
    have h1 := run_ok ops h.1 ops.length
    rw [List.take_length] at h1
    have := clock_len300 h1
    omega
theorem playI_len {c : Clock} (ops : List ClockOp) : (playI c ops).length ≤ 60000 := by
  cases h : opsOk c ops
  · rw [(play_no h).2]; exact Nat.zero_le _
  · rw [(play_yes h).2]
    unfold opsOk at h
    rw [Bool.and_eq_true, decide_eq_true_eq] at h
    have h1 := run_told ops h.1 ops.length
    rw [List.take_length] at h1
    omega
/-- The timers of a clock lie in cells that can be read, and their block is none of X. -/
def ClkIn (w : World) (X : Nat → Prop) (A : Option Addr) (d : Nat) (ts : List Timer) : Prop :=
  Reads w w.heap.size A (ts.flatMap Timer.cells) ∧ ts.length ≤ d ∧ d ≤ 9223372036854775807 ∧ ∀ b off i, A = some ⟨b, off, i⟩ → 0 < ts.length → ¬ X b
theorem ClkIn.rd {w : World} {X : Nat → Prop} {A : Option Addr} {n d : Nat} {c : Clock} (h : ClkIn w X A d c.Timers) (hn : c.Timers.length = n) : ClockR.Rd w w.heap.size [.int .i64 c.Now, .slice A n d] c := by
  subst hn
  exact of_rd_Clock (x := c) (SlRd.of_reads (by omega) h.1 h.2.1 h.2.2.1 (fun _ _ => trivial))
theorem ClkIn.keep {w w' : World} {X : Nat → Prop} {A : Option Addr} {d : Nat} {ts : List Timer} (h : ClkIn w X A d ts) (hb : Below w.heap.size w w') : ClkIn w' X A d ts := ⟨h.1.keep hb hb.size, h.2⟩
theorem ClkIn.of_arg {w : World} {A : Option Addr} {n d : Nat} {ts : List Timer} (h : SlRd TimerR w w.heap.size (.slice A n d) ts) {X : Nat → Prop} (hX : ∀ b, ¬ X b) : ClkIn w X A d ts := by
  obtain ⟨h1, h2, h3⟩ := reads_TimerS h
  exact ⟨h1, h2, h3, fun b _ _ _ _ => hX b⟩
theorem ClkIn.of_sl {w : World} {S X : Nat → Prop} {A : Option Addr} {n d : Nat} {ts : List Timer} (h : SlOwn TimerR 52 w S (.slice A n d) ts) (hS : ∀ g, S g → ¬ X g) (hB : ∀ g, S g → g < w.heap.size) : ClkIn w X A d ts := by
  obtain ⟨h1, h2, h3⟩ := reads_TimerS (h.rd hB)
  refine ⟨h1, h2, h3, fun b off i e h0 => ?_⟩
  obtain ⟨-, hr, -⟩ := h.rows
  obtain ⟨g, off', cur, a, s, -⟩ := hr (by simpa using h0)
  rw [e] at a
  injection a with a
  injection a with a1 a2 a3
  rw [a1]
  exact hS g s
theorem ClkIn.grown {w w' : World} {X X' : Nat → Prop} {row : Option Nat} {A : Option Addr} {d : Nat} {ts : List Timer} (h : ClkIn w X A d ts) (hg : w.grownBy w' row) (hrow : ∀ b, row = some b → X b) (hX : ∀ b, X' b → X b ∨ w.heap.size ≤ b) : ClkIn w' X' A d ts := by
  obtain ⟨h1, h2, h3, h4⟩ := h
  by_cases h0 : 0 < ts.length
  · obtain ⟨b, off, e, hb, hc⟩ := h1 (by rw [flat_length Timer.cells 2 Timer.len]; omega)
    have hnx := h4 b off none e h0
    refine ⟨fun _ => ⟨b, off, e, Nat.lt_of_lt_of_le hb hg.size, fun j u hu => ?_⟩, h2, h3, fun b' off' i' e' _ hx => ?_⟩
    · rw [← hc j u hu]
      unfold World.cell?
      rw [hg.block b hb (fun e2 => hnx (hrow b e2.symm))]
    · rw [e] at e'
      injection e' with e'
      injection e' with e1 e2 e3
      rcases hX b' hx with h | h
      · exact hnx (by rw [e1]; exact h)
      · omega
  · have hl : ts = [] := List.length_eq_zero_iff.1 (by omega)
    subst hl
    exact ⟨fun h => absurd h (by simp), h2, h3, fun _ _ _ _ h => absurd h (by simp)⟩
theorem ClkIn.weak {w : World} {X X' : Nat → Prop} {A : Option Addr} {d : Nat} {ts : List Timer} (h : ClkIn w X A d ts) (hX : ∀ b, X' b → X b ∨ w.heap.size ≤ b) : ClkIn w X' A d ts := by
  obtain ⟨h1, h2, h3, h4⟩ := h
  refine ⟨h1, h2, h3, fun b off i e h0 hx => ?_⟩
  obtain ⟨b', off', e', hb, -⟩ := h1 (by rw [flat_length Timer.cells 2 Timer.len]; omega)
  rw [e] at e'
  injection e' with e'
  injection e' with e1 e2 e3
  rcases hX b hx with h | h
  · exact h4 b off i e h0 h
  · omega
end Go.Proofs.Ythahnaigdoiddaa

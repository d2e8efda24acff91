/- Reading, repairing and rewriting a log, as plain data. -/
import Derived.Test.YtgaenfkjobkmjabPureScan
import Derived.Test.YtgaenfkjobkmjabLog2
set_option linter.unusedSimpArgs false
set_option linter.unusedVariables false
set_option maxRecDepth 20000
namespace Go.Proofs.Ytgaenfkjobkmjab
open Go.RowKit
def Disk.all (d : Disk) : List UInt8 := d.Safe ++ d.Loose
def readL (d : Disk) : List Record := match d.ok with | true => (scanF d.all).1 | false => []
def readC (d : Disk) : Int := match d.ok with | true => (scanF d.all).2.2 | false => 3
theorem read_yes {d : Disk} (h : d.ok = true) : readL d = (scanF d.all).1 ∧ readC d = (scanF d.all).2.2 := by unfold readL readC; rw [h]; exact ⟨rfl, rfl⟩
theorem read_no {d : Disk} (h : d.ok = false) : readL d = [] ∧ readC d = 3 := by unfold readL readC; rw [h]; exact ⟨rfl, rfl⟩
theorem all_len (d : Disk) : d.all.length = d.Safe.length + d.Loose.length := List.length_append
theorem readL_sz (d : Disk) : szList RecordR (readL d) ≤ DiskR.sz d := by
  cases h : d.ok
  · rw [(read_no h).1]; simp [szList]
  · rw [(read_yes h).1]
    have := scanF_sz d.all
    rw [all_len] at this
    rw [sz_Disk, sz_ByteS, sz_ByteS]; exact this
theorem scanG_at {b : List UInt8} : ∀ (f a : Nat) (acc : List Record), a ≤ b.length → (scanG b f a acc).2.1 ≤ b.length
  | 0, a, acc, h => by rw [scanG]; exact h
  | f + 1, a, acc, h => by
    rcases Nat.lt_or_ge a b.length with hlt | hge
    · by_cases hc : stepC b a = 0
      · rw [scan_go hlt hc]
        have h3 : ¬ b.length - a < headN b a + 6 := by
          intro h3
          by_cases h1 : b.length - a < 2
          · rw [step_short h1] at hc; cases hc
          · cases h2 : withinB (headN b a) 3 4000
            · rw [step_size h1 h2] at hc; cases hc
            · rw [step_torn h1 h2 h3] at hc; cases hc
        exact scanG_at f _ _ (by omega)
      · rw [scan_stop hlt rfl hc]; exact h
    · rw [scan_end hge]; exact h
theorem scanF_at (b : List UInt8) : (scanF b).2.1 ≤ b.length := by
  unfold scanF
  cases decide (b.length ≤ 40000)
  · exact Nat.zero_le _
  · exact scanG_at _ _ _ (Nat.zero_le _)
theorem scanG_code {b : List UInt8} : ∀ (f a : Nat) (acc : List Record), 0 ≤ (scanG b f a acc).2.2 ∧ (scanG b f a acc).2.2 ≤ 2
  | 0, a, acc => by rw [scanG]; show (0 : Int) ≤ 0 ∧ (0 : Int) ≤ 2; decide
  | f + 1, a, acc => by
    rcases Nat.lt_or_ge a b.length with hlt | hge
    · by_cases hc : stepC b a = 0
      · rw [scan_go hlt hc]; exact scanG_code f _ _
      · rw [scan_stop hlt rfl hc]
        show 0 ≤ stepC b a ∧ stepC b a ≤ 2
        unfold stepC
        cases decide (b.length - a < 2) <;> simp only [] <;> (try exact ⟨by decide, by decide⟩)
        cases withinB (headN b a : Int) 3 4000 <;> simp only [] <;> (try exact ⟨by decide, by decide⟩)
        cases decide (b.length - a < headN b a + 6) <;> simp only [] <;> (try exact ⟨by decide, by decide⟩)
        cases goodAt b a <;> exact ⟨by decide, by decide⟩
    · rw [scan_end hge]; show (0 : Int) ≤ 0 ∧ (0 : Int) ≤ 2; decide
theorem scanF_code (b : List UInt8) : 0 ≤ (scanF b).2.2 ∧ (scanF b).2.2 ≤ 2 := by
  unfold scanF
  cases decide (b.length ≤ 40000)
  · show (0 : Int) ≤ 2 ∧ (2 : Int) ≤ 2; decide
  · exact scanG_code _ _ _
def repB (d : Disk) : Bool := d.ok && !((scanF d.all).2.2 == 2)
def repD (d : Disk) : Disk := match repB d with | true => ⟨d.all.take (scanF d.all).2.1, []⟩ | false => d
theorem repD_yes {d : Disk} (h : repB d = true) : repD d = ⟨d.all.take (scanF d.all).2.1, []⟩ := by unfold repD; rw [h]
theorem repD_no {d : Disk} (h : repB d = false) : repD d = d := by unfold repD; rw [h]
theorem repD_sz (d : Disk) : DiskR.sz (repD d) ≤ DiskR.sz d := by
  cases h : repB d
  · rw [repD_no h]; exact Nat.le_refl _
  · rw [repD_yes h, sz_Disk, sz_Disk]
    simp only [sz_ByteS, List.length_take, all_len, List.length_nil]
    omega
def looseN (d : Disk) : Int := match d.ok with | true => ((scanF d.all).1.length : Int) - ((scanF d.Safe).1.length : Int) | false => -1
theorem loose_yes {d : Disk} (h : d.ok = true) : looseN d = ((scanF d.all).1.length : Int) - ((scanF d.Safe).1.length : Int) := by unfold looseN; rw [h]
theorem loose_no {d : Disk} (h : d.ok = false) : looseN d = -1 := by unfold looseN; rw [h]
theorem len_le_sz {α : Type} (R : Rep α) (xs : List α) : xs.length ≤ szList R xs := Nat.le_add_right _ _
theorem crash_zero {d : Disk} (h : d.ok = true) : (crashLog d 0).ok = true ∧ (crashLog d 0).all = d.Safe := by
  have h2 := h
  unfold Disk.ok at h2
  rw [decide_eq_true_eq] at h2
  have e : kept 0 d.Loose.length = 0 := by unfold kept; split <;> (try split) <;> omega
  rw [crashLog_ok h, e]
  refine ⟨?_, by simp [Disk.all]⟩
  unfold Disk.ok
  simp; omega
def rewA : List Record → List UInt8 → Option (List UInt8)
  | [], acc => some acc
  | r :: rs, acc => match encOk r && decide (acc.length + (frameB r).length ≤ 40000) with | true => rewA rs (acc ++ frameB r) | false => none
def rewB (d : Disk) (rs : List Record) : Bool := d.ok && (rewA rs []).isSome
def rewD (d : Disk) (rs : List Record) : Disk := match rewB d rs with | true => ⟨(rewA rs []).getD [], []⟩ | false => d
theorem rew_bad {d : Disk} {rs : List Record} (h : d.ok = false) : rewB d rs = false ∧ rewD d rs = d := by
  have h1 : rewB d rs = false := by unfold rewB; rw [h]; rfl
  exact ⟨h1, by unfold rewD; rw [h1]⟩
theorem rew_none {d : Disk} {rs : List Record} (h : rewA rs [] = none) : rewB d rs = false ∧ rewD d rs = d := by
  have h1 : rewB d rs = false := by unfold rewB; rw [h]; cases d.ok <;> rfl
  exact ⟨h1, by unfold rewD; rw [h1]⟩
theorem rew_some {d : Disk} {rs : List Record} {b : List UInt8} (h : d.ok = true) (h2 : rewA rs [] = some b) : rewB d rs = true ∧ rewD d rs = ⟨b, []⟩ := by
  have h1 : rewB d rs = true := by unfold rewB; rw [h, h2]; rfl
  exact ⟨h1, by unfold rewD; rw [h1, h2]; rfl⟩
theorem rewA_len : ∀ (rs : List Record) (acc b : List UInt8), acc.length ≤ 40000 → rewA rs acc = some b → b.length ≤ 40000
  | [], acc, b, h, e => by simp only [rewA, Option.some.injEq] at e; rw [← e]; exact h
  | r :: rs, acc, b, h, e => by
    rw [rewA] at e
    cases hc : encOk r && decide (acc.length + (frameB r).length ≤ 40000) <;> rw [hc] at e
    · cases e
    · simp only [Bool.and_eq_true, decide_eq_true_eq] at hc
      exact rewA_len rs _ b (by rw [List.length_append]; exact hc.2) e
theorem rewD_sz (d : Disk) (rs : List Record) : DiskR.sz (rewD d rs) ≤ DiskR.sz d + 40000 := by
  cases h : rewB d rs
  · have : rewD d rs = d := by unfold rewD; rw [h]
    rw [this]; omega
  · have h0 : rewD d rs = ⟨(rewA rs []).getD [], []⟩ := by unfold rewD; rw [h]
    unfold rewB at h
    rw [Bool.and_eq_true] at h
    obtain ⟨b, hb⟩ := Option.isSome_iff_exists.1 h.2
    have := rewA_len rs [] b (by simp) hb
    rw [h0, hb, sz_Disk, sz_Disk]
    simp only [sz_ByteS, Option.getD_some, List.length_nil]
    omega
end Go.Proofs.Ytgaenfkjobkmjab

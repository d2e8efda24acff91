/- Rewriting a log, as plain data. -/
import Derived.Test.YtgaenfkjobkmjaaFrameL
import Derived.Test.YtgaenfkjobkmjaaLog2
import Derived.Test.YtgaenfkjobkmjaaRecordS2
set_option linter.unusedSimpArgs false
set_option linter.unusedVariables false
set_option maxRecDepth 20000
namespace Go.Proofs.Ytgaenfkjobkmjaa
open Go.RowKit
theorem len_le_sz {α : Type} (R : Rep α) (xs : List α) : xs.length ≤ szList R xs := Nat.le_add_right _ _
def rewA : List Record → List UInt8 → Option (List UInt8)
  | [], acc => some acc
  | r :: rs, acc => match encOk r && decide (acc.length + (frameB r).length ≤ 40000) with | true => rewA rs (acc ++ frameB r) | false => none
def rewB (d : Disk) (rs : List Record) : Bool := d.ok && (rewA rs []).isSome
def rewD (d : Disk) (rs : List Record) : Disk := match rewB d rs with | true => ⟨(rewA rs []).getD [], []⟩ | false => d
theorem rew_bad {d : Disk} {rs : List Record} (h : d.ok = false) : rewB d rs = false ∧ rewD d rs = d := by
  have h1 : rewB d rs = false := by unfold rewB; rw [h]; rfl
  exact ⟨h1, by unfold rewD; rw [h1]⟩
theorem rew_none {d : Disk} {rs : List Record} (h : rewA rs [] = none) : rewB d rs = false ∧ rewD d rs = d := by
  have h1 : rewB d rs = false := by unfold rewB; rw [h]; cases d.ok <;> rfl
  exact ⟨h1, by unfold rewD; rw [h1]⟩
theorem rew_some {d : Disk} {rs : List Record} {b : List UInt8} (h : d.ok = true) (h2 : rewA rs [] = some b) : rewB d rs = true ∧ rewD d rs = ⟨b, []⟩ := by
  have h1 : rewB d rs = true := by unfold rewB; rw [h, h2]; rfl
  exact ⟨h1, by unfold rewD; rw [h1, h2]; rfl⟩
theorem rewA_len : ∀ (rs : List Record) (acc b : List UInt8), acc.length ≤ 40000 → rewA rs acc = some b → b.length ≤ 40000
  | [], acc, b, h, e => by simp only [rewA, Option.some.injEq] at e; rw [← e]; exact h
  | r :: rs, acc, b, h, e => by
    rw [rewA] at e
    cases hc : encOk r && decide (acc.length + (frameB r).length ≤ 40000) <;> rw [hc] at e
    · cases e
    · simp only [Bool.and_eq_true, decide_eq_true_eq] at hc
      exact rewA_len rs _ b (by rw [List.length_append]; exact hc.2) e
theorem rewD_sz (d : Disk) (rs : List Record) : DiskR.sz (rewD d rs) ≤ DiskR.sz d + 40000 := by
  cases h : rewB d rs
  · have : rewD d rs = d := by unfold rewD; rw [h]
    rw [this]; omega
  · have h0 : rewD d rs = ⟨(rewA rs []).getD [], []⟩ := by unfold rewD; rw [h]
    unfold rewB at h
    rw [Bool.and_eq_true] at h
    obtain ⟨b, hb⟩ := Option.isSome_iff_exists.1 h.2
    have := rewA_len rs [] b (by simp) hb
    rw [h0, hb, sz_Disk, sz_Disk]
    simp only [sz_ByteS, Option.getD_some, List.length_nil]
    omega
end Go.Proofs.Ytgaenfkjobkmjaa

/- DecodeRecord, both sides, as the law asks. -/
import Derived.Test.YtgaenfkjobkmjabSpecDec
import Derived.Test.YtgaenfkjobkmjabImplDec
set_option linter.unusedSimpArgs false
set_option linter.unusedVariables false
set_option maxRecDepth 20000
namespace Go.Proofs.Ytgaenfkjobkmjab
open Go.RowKit
theorem goNums_len {b : List UInt8} : ∀ (k : Nat) (acc : List Int) (i e : Int) (ns : List Int), goNums b k acc i = some (ns, e) → ns.length = acc.length + k
  | 0, acc, i, e, ns, h => by
    simp only [goNums, Option.some.injEq, Prod.mk.injEq] at h
    rw [← h.1]; rfl
  | k + 1, acc, i, e, ns, h => by
    rw [goNums] at h
    rcases ht : takeAt b i with ⟨x, e1, ok⟩
    rw [ht] at h
    cases ok
    · cases h
    · have := goNums_len k _ _ _ _ h
      rw [this, List.length_append, List.length_singleton]
      omega
theorem goTexts_facts {b : List UInt8} (hb : b.length ≤ 4000) : ∀ (k : Nat) (acc : List ByteArray) (i e : Int) (ts : List ByteArray), (∀ s ∈ acc, s.size ≤ 4000) → goTexts b k acc i = some (ts, e) → ts.length = acc.length + k ∧ ∀ s ∈ ts, s.size ≤ 4000
  | 0, acc, i, e, ts, ha, h => by
    simp only [goTexts, Option.some.injEq, Prod.mk.injEq] at h
    rw [← h.1]; exact ⟨rfl, ha⟩
  | k + 1, acc, i, e, ts, ha, h => by
    rw [goTexts] at h
    rcases ht : takeAt b i with ⟨x, e1, ok⟩
    rw [ht] at h
    cases ok
    · cases h
    · simp only at h
      cases hw : withinB x 0 ((b.length : Int) - e1) <;> rw [hw] at h
      · cases h
      · obtain ⟨q1, q2⟩ := goTexts_facts hb k _ _ _ _ (by
          intro s hs
          rcases List.mem_append.1 hs with hs | hs
          · exact ha s hs
          · rw [List.mem_singleton.1 hs]
            show ((b.drop e1.toNat).take x.toNat).toArray.size ≤ 4000
            simp
            omega) h
        refine ⟨?_, q2⟩
        rw [q1, List.length_append, List.length_singleton]
        omega
theorem decR_sz (b : List UInt8) : RecordR.sz (decR b) ≤ 200000 := by
  unfold decR
  cases h : dec false b with
  | none => simp [sz_Record, szList]
  | some r =>
    obtain ⟨n, a1, ns, a2, m, a3, ts, a4, h0, h1, h2, h3, h4, h5, h6, h7⟩ := dec_parts h
    simp only [least, withinB_iff] at h0
    simp only [bad, Bool.not_eq_false', withinB_iff] at h2 h5
    simp only [fin4] at h7
    cases hc : decide (a4 = (b.length : Int)) && recOk ⟨headI b, ns, ts⟩ <;> rw [hc] at h7
    · cases h7
    obtain rfl : (⟨headI b, ns, ts⟩ : Record) = r := by simpa using h7
    have e1 := goNums_len _ _ _ _ _ h3
    obtain ⟨e2, e3⟩ := goTexts_facts (by omega) _ _ _ _ _ (by simp) h6
    simp only [List.length_nil] at e1 e2
    show RecordR.sz ⟨headI b, ns, ts⟩ ≤ 200000
    rw [sz_Record, sz_IntS, sz_StringS]
    have := strSum_le e3
    simp only
    have : 4000 * ts.length ≤ 4000 * 40 := Nat.mul_le_mul_left _ (by omega)
    omega
end Go.Proofs.Ytgaenfkjobkmjab

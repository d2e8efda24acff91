/- DecodeRecord: the lax reading and the strict one answer alike. -/
import Derived.Test.YtndgaakfndokgaaPureDec
set_option linter.unusedSimpArgs false
set_option linter.unusedVariables false
set_option maxRecDepth 20000
namespace Go.Proofs.Ytndgaakfndokgaa
open Go.RowKit
/-- What a reading that ends well has read. -/
theorem dec_parts {lax : Bool} {b : List UInt8} {r : Record} (h : dec lax b = some r) :
    ∃ (n : Int) (a1 : Int) (ns : List Int) (a2 m a3 : Int) (ts : List ByteArray) (a4 : Int),
      withinB b.length (least lax) 4000 = true ∧ takeAt b 1 = (n, a1, true) ∧ bad lax n = false ∧ goNums b n.toNat [] a1 = some (ns, a2) ∧
      takeAt b a2 = (m, a3, true) ∧ bad lax m = false ∧ goTexts b m.toNat [] a3 = some (ts, a4) ∧ fin4 lax b ⟨headI b, ns, ts⟩ a4 = some r := by
  unfold dec at h
  cases hl : withinB b.length (least lax) 4000 <;> rw [hl] at h
  · cases h
  · rcases h1 : takeAt b 1 with ⟨n, a1, ok⟩
    rw [h1] at h
    cases ok
    · cases h
    · simp only [st1] at h
      cases hb1 : bad lax n <;> rw [hb1] at h
      · simp only at h
        rcases h2 : goNums b n.toNat [] a1 with _ | ⟨ns, a2⟩
        · rw [h2] at h; cases h
        · rw [h2] at h
          simp only [st2] at h
          rcases h3 : takeAt b a2 with ⟨m, a3, ok⟩
          rw [h3] at h
          cases ok
          · cases h
          · simp only [st3] at h
            cases hb2 : bad lax m <;> rw [hb2] at h
            · simp only at h
              rcases h4 : goTexts b m.toNat [] a3 with _ | ⟨ts, a4⟩
              · rw [h4] at h; cases h
              · rw [h4] at h
                exact ⟨n, a1, ns, a2, m, a3, ts, a4, rfl, rfl, hb1, h2, h3, hb2, h4, h⟩
            · cases h
      · cases h
theorem dec_of {lax : Bool} {b : List UInt8} {r : Record} {n a1 : Int} {ns : List Int} {a2 m a3 : Int} {ts : List ByteArray} {a4 : Int}
    (h0 : withinB b.length (least lax) 4000 = true) (h1 : takeAt b 1 = (n, a1, true)) (h2 : bad lax n = false) (h3 : goNums b n.toNat [] a1 = some (ns, a2))
    (h4 : takeAt b a2 = (m, a3, true)) (h5 : bad lax m = false) (h6 : goTexts b m.toNat [] a3 = some (ts, a4)) (h7 : fin4 lax b ⟨headI b, ns, ts⟩ a4 = some r) : dec lax b = some r := by
  unfold dec
  rw [h0]
  simp only [h1, st1, h2, h3, st2, h4, st3, h5, h6, st4, h7]
/-- The bytes that have been read, whatever the counts. -/
theorem read_bytes {b : List UInt8} {n a1 : Int} {ns : List Int} {a2 m a3 : Int} {ts : List ByteArray} {a4 : Int} (hl : 1 ≤ b.length) (h1 : takeAt b 1 = (n, a1, true)) (h3 : goNums b n.toNat [] a1 = some (ns, a2))
    (h4 : takeAt b a2 = (m, a3, true)) (h6 : goTexts b m.toNat [] a3 = some (ts, a4)) :
    ∃ k2 k4 : Nat, a2 = k2 ∧ a4 = k4 ∧ k4 ≤ b.length ∧ ns.length = n.toNat ∧ ts.length = m.toNat ∧
      b.drop 1 = numB (zig n) ++ numsB ns ++ b.drop k2 ∧ b.drop k2 = numB (zig m) ++ textsB ts ++ b.drop k4 := by
  obtain ⟨a, a', e0, rfl, p1, p2, p3, -⟩ := takeAt_sound h1
  obtain rfl : a = 1 := by omega
  obtain ⟨xs, c, c', e1, rfl, q1, q2, rfl, q3, q4⟩ := goNums_sound _ _ _ _ _ (by omega) (by omega) h3
  obtain rfl : c = a' := by omega
  obtain ⟨d, d', e2, rfl, r1, r2, r3, -⟩ := takeAt_sound h4
  obtain rfl : d = c' := by omega
  obtain ⟨ys, f, f', e3, rfl, s1, s2, rfl, s3, s4⟩ := goTexts_sound _ _ _ _ _ (by omega) (by omega) h6
  obtain rfl : f = d' := by omega
  refine ⟨d, f', rfl, rfl, s2, by simp [q3], by simp [s3], ?_, ?_⟩
  · rw [p3, q4]; simp
  · rw [r3, s4]; simp
theorem head_cons {b : List UInt8} (h : 1 ≤ b.length) : b = UInt8.ofNat (headI b).toNat :: b.drop 1 := by
  cases b with
  | nil => simp at h
  | cons x xs => simp [headI]
theorem encList_eq (k : Int) (ns : List Int) (ts : List ByteArray) : encList ⟨k, ns, ts⟩ = UInt8.ofNat k.toNat :: (numB (zig (ns.length : Int)) ++ (numsB ns ++ (numB (zig (ts.length : Int)) ++ textsB ts))) := by
  simp [encList, encHead]
theorem num_zero : numB (zig 0) = [0] := by simp [zig, numB]
theorem dec_strict {b : List UInt8} {r : Record} (h : dec false b = some r) : dec true b = some r := by
  obtain ⟨n, a1, ns, a2, m, a3, ts, a4, h0, h1, h2, h3, h4, h5, h6, h7⟩ := dec_parts h
  simp only [least, withinB_iff] at h0
  have hl : 1 ≤ b.length := by omega
  obtain ⟨k2, k4, rfl, rfl, l4, ln, lm, e1, e2⟩ := read_bytes hl h1 h3 h4 h6
  simp only [bad, Bool.not_eq_false', withinB_iff] at h2 h5
  simp only [fin4] at h7
  cases hc : decide ((k4 : Int) = (b.length : Int)) && recOk ⟨headI b, ns, ts⟩ <;> rw [hc] at h7
  · cases h7
  obtain rfl : (⟨headI b, ns, ts⟩ : Record) = r := by simpa using h7
  simp only [Bool.and_eq_true, decide_eq_true_eq] at hc
  have hb : encList ⟨headI b, ns, ts⟩ = b := by
    rw [encList_eq, show (ns.length : Int) = n by omega, show (ts.length : Int) = m by omega]
    conv => rhs; rw [head_cons hl, e1, e2, List.drop_eq_nil_of_le (show b.length ≤ k4 by omega)]
    simp
  have hok := encOk_good hc.2 (by rw [hb]; omega)
  refine dec_of (by simp only [least, withinB_iff]; omega) h1 (by simp only [bad, decide_eq_false_iff_not]; omega) h3 h4 (by simp only [bad, decide_eq_false_iff_not]; omega) h6 ?_
  simp only [fin4, hok, encB_yes hok, hb, decide_true, Bool.and_self]
theorem dec_lax {b : List UInt8} {r : Record} (h : dec true b = some r) : dec false b = some r := by
  obtain ⟨n, a1, ns, a2, m, a3, ts, a4, h0, h1, h2, h3, h4, h5, h6, h7⟩ := dec_parts h
  simp only [least, withinB_iff] at h0
  have hl : 1 ≤ b.length := by omega
  obtain ⟨k2, k4, rfl, rfl, l4, ln, lm, e1, e2⟩ := read_bytes hl h1 h3 h4 h6
  simp only [bad, decide_eq_false_iff_not] at h2 h5
  simp only [fin4] at h7
  cases hc : encOk ⟨headI b, ns, ts⟩ && decide (encB ⟨headI b, ns, ts⟩ = b) <;> rw [hc] at h7
  · cases h7
  obtain rfl : (⟨headI b, ns, ts⟩ : Record) = r := by simpa using h7
  simp only [Bool.and_eq_true, decide_eq_true_eq] at hc
  obtain ⟨hok, hb⟩ := hc
  rw [encB_yes hok, encList_eq] at hb
  have hrec : recOk ⟨headI b, ns, ts⟩ = true := by
    cases hr : recOk ⟨headI b, ns, ts⟩
    · rw [encOk_bad hr] at hok; cases hok
    · rfl
  have hd : b.drop 1 = numB (zig (ns.length : Int)) ++ (numsB ns ++ (numB (zig (ts.length : Int)) ++ textsB ts)) := by
    conv => lhs; rw [← hb]
    rfl
  have hn : 0 ≤ n := by
    by_cases h : 0 ≤ n
    · exact h
    · have h00 : ns.length = 0 := by omega
      rw [h00] at hd
      have hz : b[1]? = some 0 := by
        have : (b.drop 1)[0]? = some 0 := by rw [hd]; simp [num_zero]
        simpa using this
      rw [show (1 : Int) = ((1 : Nat) : Int) from rfl, takeAt_zero hz] at h1
      have : (0 : Int) = n := congrArg Prod.fst h1
      omega
  have en : (ns.length : Int) = n := by omega
  rw [en, e1, List.append_assoc] at hd
  have hd2 := List.append_cancel_left (List.append_cancel_left hd)
  have hm : 0 ≤ m := by
    by_cases h : 0 ≤ m
    · exact h
    · have h00 : ts.length = 0 := by omega
      rw [h00] at hd2
      have hz : b[k2]? = some 0 := by
        have : (b.drop k2)[0]? = some 0 := by rw [hd2]; simp [num_zero]
        simpa using this
      rw [takeAt_zero hz] at h4
      have : (0 : Int) = m := congrArg Prod.fst h4
      omega
  have em : (ts.length : Int) = m := by omega
  rw [em, e2] at hd2
  have hd3 : b.drop k4 = [] := by
    have := congrArg List.length hd2
    simp only [List.length_append] at this
    exact List.eq_nil_of_length_eq_zero (by omega)
  have hk : b.length ≤ k4 := List.drop_eq_nil_iff.1 hd3
  have h3l : 3 ≤ b.length := by
    have := congrArg List.length hb
    simp only [List.length_cons, List.length_append] at this
    have q1 := numB_len (zig (ns.length : Int))
    have q2 := numB_len (zig (ts.length : Int))
    omega
  refine dec_of (by simp only [least, withinB_iff]; omega) h1 (by simp only [bad, Bool.not_eq_false', withinB_iff]; omega) h3 h4 (by simp only [bad, Bool.not_eq_false', withinB_iff]; omega) h6 ?_
  simp only [fin4, hrec, show (k4 : Int) = (b.length : Int) by omega, decide_true, Bool.and_self]
theorem dec_same (b : List UInt8) : dec true b = dec false b := by
  cases h : dec false b with
  | some r => exact dec_strict h
  | none =>
    cases h' : dec true b with
    | none => rfl
    | some r => rw [dec_lax h'] at h; cases h
end Go.Proofs.Ytndgaakfndokgaa

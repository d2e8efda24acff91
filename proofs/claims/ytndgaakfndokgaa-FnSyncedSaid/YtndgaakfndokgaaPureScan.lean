/- Scanning frames: plain data. -/
import Derived.Test.YtndgaakfndokgaaDecL
import Derived.Test.YtndgaakfndokgaaFrame
import Derived.Test.YtndgaakfndokgaaRecordS2
set_option linter.unusedSimpArgs false
set_option linter.unusedVariables false
set_option maxRecDepth 20000
namespace Go.Proofs.Ytndgaakfndokgaa
open Go.RowKit
def headN (b : List UInt8) (a : Nat) : Nat := 256 * (b.getD a 0).toNat + (b.getD (a + 1) 0).toNat
def bodyB (b : List UInt8) (a : Nat) : List UInt8 := (b.drop (a + 2)).take (headN b a)
def tailB (b : List UInt8) (a : Nat) : List UInt8 := (b.drop (a + 2 + headN b a)).take 4
def goodAt (b : List UInt8) (a : Nat) : Bool := decOk (bodyB b a) && decide (tailB b a = wideB (digN (bodyB b a)) 4)
/-- What the scan does at an index: 0 goes on, 1 is torn, 2 is bad. -/
def stepC (b : List UInt8) (a : Nat) : Int := match decide (b.length - a < 2) with
  | true => 1
  | false => match withinB (headN b a) 3 4000 with
    | false => 2
    | true => match decide (b.length - a < headN b a + 6) with
      | true => 1
      | false => match goodAt b a with | true => 0 | false => 2
def scanG (b : List UInt8) : Nat → Nat → List Record → List Record × Nat × Int
  | 0, a, acc => (acc, a, 0)
  | f + 1, a, acc => match decide (a < b.length) with
    | false => (acc, a, 0)
    | true => match stepC b a == 0 with
      | true => scanG b f (a + headN b a + 6) (acc ++ [decR (bodyB b a)])
      | false => (acc, a, stepC b a)
def scanF (b : List UInt8) : List Record × Nat × Int := match decide (b.length ≤ 40000) with | true => scanG b (b.length + 1) 0 [] | false => ([], 0, 2)
section
variable {b : List UInt8} {f a : Nat} {acc : List Record}
theorem scan_end (h : b.length ≤ a) : scanG b (f + 1) a acc = (acc, a, 0) := by rw [scanG, decide_eq_false (by omega : ¬ a < b.length)]
theorem scan_stop {c : Int} (h : a < b.length) (hc : stepC b a = c) (h0 : c ≠ 0) : scanG b (f + 1) a acc = (acc, a, c) := by
  subst hc
  rw [scanG, decide_eq_true h]
  have : (stepC b a == 0) = false := by simpa using h0
  simp only [this]
theorem scan_go (h : a < b.length) (hc : stepC b a = 0) : scanG b (f + 1) a acc = scanG b f (a + headN b a + 6) (acc ++ [decR (bodyB b a)]) := by
  rw [scanG, decide_eq_true h]
  have : (stepC b a == 0) = true := by rw [hc]; rfl
  simp only [this]
theorem step_short (h : b.length - a < 2) : stepC b a = 1 := by unfold stepC; rw [decide_eq_true h]
theorem step_size (h : ¬ b.length - a < 2) (h2 : withinB (headN b a) 3 4000 = false) : stepC b a = 2 := by unfold stepC; rw [decide_eq_false h]; simp only [h2]
theorem step_torn (h : ¬ b.length - a < 2) (h2 : withinB (headN b a) 3 4000 = true) (h3 : b.length - a < headN b a + 6) : stepC b a = 1 := by unfold stepC; rw [decide_eq_false h]; simp only [h2, decide_eq_true h3]
theorem step_yes (h : ¬ b.length - a < 2) (h2 : withinB (headN b a) 3 4000 = true) (h3 : ¬ b.length - a < headN b a + 6) (hg : goodAt b a = true) : stepC b a = 0 := by unfold stepC; rw [decide_eq_false h]; simp only [h2, decide_eq_false h3, hg]
theorem step_no (h : ¬ b.length - a < 2) (h2 : withinB (headN b a) 3 4000 = true) (h3 : ¬ b.length - a < headN b a + 6) (hg : goodAt b a = false) : stepC b a = 2 := by unfold stepC; rw [decide_eq_false h]; simp only [h2, decide_eq_false h3, hg]
end
theorem scanF_long {b : List UInt8} (h : ¬ b.length ≤ 40000) : scanF b = ([], 0, 2) := by unfold scanF; rw [decide_eq_false h]
theorem scanF_start {b : List UInt8} (h : b.length ≤ 40000) : scanF b = scanG b (b.length + 1) 0 [] := by unfold scanF; rw [decide_eq_true h]
theorem numsB_ge (xs : List Int) : xs.length ≤ (numsB xs).length := by
  induction xs with
  | nil => simp [numsB]
  | cons x xs ih =>
    have := (numB_len (zig x)).1
    unfold numsB at ih ⊢
    rw [List.flatMap_cons, List.length_append, List.length_cons]
    omega
theorem textsB_ge (ss : List ByteArray) : ss.length + strSum ss ≤ (textsB ss).length := by
  induction ss with
  | nil => simp [textsB, strSum]
  | cons s ss ih =>
    have h1 := (numB_len (zig (s.size : Int))).1
    have h2 : (textB s).length = (numB (zig (s.size : Int))).length + s.size := by unfold textB; rw [List.length_append]; rfl
    unfold textsB at ih ⊢
    rw [List.flatMap_cons, List.length_append, List.length_cons, h2]
    simp only [strSum, List.map_cons, List.sum_cons] at ih ⊢
    omega
theorem decR_sz_le (b : List UInt8) : RecordR.sz (decR b) ≤ b.length := by
  unfold decR
  cases h : dec false b with
  | none => simp [sz_Record, szList]
  | some r =>
    obtain ⟨n, a1, ns, a2, m, a3, ts, a4, h0, h1, h2, h3, h4, h5, h6, h7⟩ := dec_parts h
    simp only [least, withinB_iff] at h0
    simp only [fin4] at h7
    cases hc : decide (a4 = (b.length : Int)) && recOk ⟨headI b, ns, ts⟩ <;> rw [hc] at h7
    · cases h7
    obtain rfl : (⟨headI b, ns, ts⟩ : Record) = r := by simpa using h7
    obtain ⟨k2, k4, -, -, l4, ln, lm, e1, e2⟩ := read_bytes (by omega) h1 h3 h4 h6
    show RecordR.sz ⟨headI b, ns, ts⟩ ≤ b.length
    rw [sz_Record, sz_IntS, sz_StringS]
    have q1 := congrArg List.length e1
    have q2 := congrArg List.length e2
    simp only [List.length_append, List.length_drop] at q1 q2
    have q3 := numsB_ge ns
    have q4 := textsB_ge ts
    simp only
    omega
theorem scanG_sz {b : List UInt8} : ∀ (f a : Nat) (acc : List Record), a ≤ b.length → szList RecordR acc ≤ a → szList RecordR (scanG b f a acc).1 ≤ b.length
  | 0, a, acc, h, hs => by rw [scanG]; exact Nat.le_trans hs h
  | f + 1, a, acc, h, hs => by
    rcases Nat.lt_or_ge a b.length with hlt | hge
    · by_cases hc : stepC b a = 0
      · rw [scan_go hlt hc]
        have h3 : ¬ b.length - a < headN b a + 6 := by
          intro h3
          by_cases h1 : b.length - a < 2
          · rw [step_short h1] at hc; cases hc
          · cases h2 : withinB (headN b a) 3 4000
            · rw [step_size h1 h2] at hc; cases hc
            · rw [step_torn h1 h2 h3] at hc; cases hc
        refine scanG_sz f _ _ (by omega) ?_
        have h4 := decR_sz_le (bodyB b a)
        have h5 : (bodyB b a).length ≤ headN b a := by unfold bodyB; rw [List.length_take]; omega
        unfold szList at hs ⊢
        rw [List.length_append, List.map_append, List.sum_append]
        simp only [List.length_cons, List.length_nil, List.map_cons, List.map_nil, List.sum_cons, List.sum_nil]
        omega
      · rw [scan_stop hlt rfl hc]; exact Nat.le_trans hs h
    · rw [scan_end hge]; exact Nat.le_trans hs h
theorem scanF_sz (b : List UInt8) : szList RecordR (scanF b).1 ≤ b.length := by
  unfold scanF
  cases decide (b.length ≤ 40000)
  · simp [szList]
  · exact scanG_sz _ _ _ (Nat.zero_le _) (by simp [szList])
end Go.Proofs.Ytndgaakfndokgaa

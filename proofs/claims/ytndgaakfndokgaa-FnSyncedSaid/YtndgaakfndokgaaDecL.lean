/- DecodeRecord, both sides, as the law asks. -/
import Derived.Test.YtndgaakfndokgaaSpecDec
import Derived.Test.YtndgaakfndokgaaImplDec
set_option linter.unusedSimpArgs false
set_option linter.unusedVariables false
set_option maxRecDepth 20000
namespace Go.Proofs.Ytndgaakfndokgaa
open Go.RowKit
theorem goNums_len {b : List UInt8} : ∀ (k : Nat) (acc : List Int) (i e : Int) (ns : List Int), goNums b k acc i = some (ns, e) → ns.length = acc.length + k
  | 0, acc, i, e, ns, h => by
    simp only [goNums, Option.some.injEq, Prod.mk.injEq] at h
    rw [← h.1]; rfl
  | k + 1, acc, i, e, ns, h => by
    rw [goNums] at h
    rcases ht : takeAt b i with ⟨x, e1, ok⟩
    rw [ht] at h
    cases ok
    · cases h
    · have := goNums_len k _ _ _ _ h
      rw [this, List.length_append, List.length_singleton]
      omega
theorem goTexts_facts {b : List UInt8} (hb : b.length ≤ 4000) : ∀ (k : Nat) (acc : List ByteArray) (i e : Int) (ts : List ByteArray), (∀ s ∈ acc, s.size ≤ 4000) → goTexts b k acc i = some (ts, e) → ts.length = acc.length + k ∧ ∀ s ∈ ts, s.size ≤ 4000
  | 0, acc, i, e, ts, ha, h => by
    simp only [goTexts, Option.some.injEq, Prod.mk.injEq] at h
    rw [← h.1]; exact ⟨rfl, ha⟩
  | k + 1, acc, i, e, ts, ha, h => by
    rw [goTexts] at h
    rcases ht : takeAt b i with ⟨x, e1, ok⟩
    rw [ht] at h
    cases ok
    · cases h
    · simp only at h
      cases hw : withinB x 0 ((b.length : Int) - e1) <;> rw [hw] at h
      · cases h
      · obtain ⟨q1, q2⟩ := goTexts_facts hb k _ _ _ _ (by
          intro s hs
          rcases List.mem_append.1 hs with hs | hs
          · exact ha s hs
          · rw [List.mem_singleton.1 hs]
            show ((b.drop e1.toNat).take x.toNat).toArray.size ≤ 4000
            simp
            omega) h
        refine ⟨?_, q2⟩
        rw [q1, List.length_append, List.length_singleton]
        omega
theorem decR_sz (b : List UInt8) : RecordR.sz (decR b) ≤ 200000 := by
  unfold decR
  cases h : dec false b with
  | none => simp [sz_Record, szList]
  | some r =>
    obtain ⟨n, a1, ns, a2, m, a3, ts, a4, h0, h1, h2, h3, h4, h5, h6, h7⟩ := dec_parts h
    simp only [least, withinB_iff] at h0
    simp only [bad, Bool.not_eq_false', withinB_iff] at h2 h5
    simp only [fin4] at h7
    cases hc : decide (a4 = (b.length : Int)) && recOk ⟨headI b, ns, ts⟩ <;> rw [hc] at h7
    · cases h7
    obtain rfl : (⟨headI b, ns, ts⟩ : Record) = r := by simpa using h7
    have e1 := goNums_len _ _ _ _ _ h3
    obtain ⟨e2, e3⟩ := goTexts_facts (by omega) _ _ _ _ _ (by simp) h6
    simp only [List.length_nil] at e1 e2
    show RecordR.sz ⟨headI b, ns, ts⟩ ≤ 200000
    rw [sz_Record, sz_IntS, sz_StringS]
    have := strSum_le e3
    simp only
    have : 4000 * ts.length ≤ 4000 * 40 := Nat.mul_le_mul_left _ (by omega)
    omega
set_option maxHeartbeats 800000 in
theorem impl_DecodeRecord (v_b : Value) (b : List UInt8) (w : World) (hr_b : SlRd byteR w w.heap.size v_b b) (hm_b : szList byteR b ≤ 1048576) :
    Calls Try.prog 10 #[v_b] w fun e w' => ∃ cs', e = .returned (.tuple #[.agg cs'.toArray, .bool (decOk b)]) ∧ RecordR.Own w' (InR w.heap.size w'.heap.size) cs' (decR b) ∧ Below w.heap.size w w' := by
  obtain ⟨A, c, rfl⟩ := hr_b.form
  have HC := Lib.hid (fun w' (h : SlRd byteR w' w'.heap.size (.slice A b.length c) b) => impl_decodeRecord _ b w' h hm_b)
  generalize decOk b = OK at *
  generalize decR b = RR at *
  generalize hn : b.length = n at *
  have Hn := Lib.hid hn
  clear hn
  go_enter Try.func10, Try.ntmps10
  go_wp2_with fail
  refine (HC.out _ (SlRd.keep hr_b (by (repeat (first | (with_reducible exact Below.refl _ _) | (with_reducible assumption) | ((with_reducible refine Below.setCell ?_ ?_ _); rotate_left; focus (first | omega | (simp; done) | (simp; omega))) | ((with_reducible refine Below.alloc ?_ ?_ _); rotate_left; focus (first | omega | (simp; done) | (simp; omega))) | (with_reducible refine Below.drew ?_) | (with_reducible refine below_drewN ?_ _) | (refine Below.trans ?_ (Below.mono (by with_reducible assumption) (by (first | omega | (simp; done) | (simp; omega)))))))) (by first | omega | (simp; done) | (simp; omega)))).mono ?_
  rintro e w1 ⟨cs', rfl, ho, hb1⟩
  obtain ⟨v0, v1, _, _, rfl, p0, p1, -⟩ := own_Record (id ho)
  obtain ⟨A0, c0, rfl⟩ := p0.form
  obtain ⟨A1, c1, rfl⟩ := p1.form
  have hz1 := hb1.size; try simp at hz1
  have BK0 : Blk w1 w.heap.size 27 #[.int .i64 0, .slice none 0 0, .slice none 0 0] := by (repeat (first | (with_reducible assumption) | ((with_reducible refine Blk.new' ?_); focus (simp; done)) | (with_reducible refine Blk.alloc ?_ _) | (with_reducible refine Blk.drew ?_) | (with_reducible refine Blk.drewN ?_ _) | ((with_reducible refine Blk.far ?_ ?_ _); rotate_left; focus (first | omega | (simp; done) | (simp; omega))) | (refine Blk.keep ?_ (by with_reducible assumption)) | (refine Blk.below ?_ (by with_reducible assumption) (by (first | omega | (simp; done) | (simp; omega))))))
  have hc0 := BK0.cell; have hf0 := BK0.frozen; have hl0 := BK0.lt
  go_wp2
  refine bodyPost_ret (v := .tuple #[.agg #[.int .i64 RR.Kind, .slice A0 RR.Nums.length c0, .slice A1 RR.Texts.length c1], .bool OK]) (by simp [results, Try.results10, go_sem, hc0, hf0]) rfl ⟨[.int .i64 RR.Kind, .slice A0 RR.Nums.length c0, .slice A1 RR.Texts.length c1], rfl, ?_, by (repeat (first | (with_reducible exact Below.refl _ _) | (with_reducible assumption) | ((with_reducible refine Below.setCell ?_ ?_ _); rotate_left; focus (first | omega | (simp; done) | (simp; omega))) | ((with_reducible refine Below.alloc ?_ ?_ _); rotate_left; focus (first | omega | (simp; done) | (simp; omega))) | (with_reducible refine Below.drew ?_) | (with_reducible refine below_drewN ?_ _) | (refine Below.trans ?_ (Below.mono (by with_reducible assumption) (by (first | omega | (simp; done) | (simp; omega)))))))⟩
  exact RecordR.own_wide (RecordR.own_off ho (by (repeat (first | (with_reducible exact Out.refl _ _) | (with_reducible assumption) | ((with_reducible refine Out.setCell ?_ ?_ _); rotate_left; focus (first | (refine Or.inl ?_; (first | omega | (simp; done) | (simp; omega))) | (refine Or.inr ?_; (first | omega | (simp; done) | (simp; omega))))) | (with_reducible refine Out.alloc ?_ _) | (with_reducible refine Out.drew ?_) | (with_reducible refine Out.drewN ?_ _) | (refine Out.step ?_ (by with_reducible assumption)))))) (inR_mono (by first | omega | (simp; done) | (simp; omega)) (by first | omega | (simp; done) | (simp; omega)))
end Go.Proofs.Ytndgaakfndokgaa

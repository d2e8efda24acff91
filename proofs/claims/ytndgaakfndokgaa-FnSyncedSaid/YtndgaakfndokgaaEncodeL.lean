/- EncodeRecord, both sides, as the law asks. -/
import Derived.Test.YtndgaakfndokgaaSpecEncode
import Derived.Test.YtndgaakfndokgaaByteS2
set_option linter.unusedSimpArgs false
set_option linter.unusedVariables false
set_option maxRecDepth 20000
namespace Go.Proofs.Ytndgaakfndokgaa
open Go.RowKit
theorem spec_EncodeRecordL (cs : List Value) (r : Record) (w : World) (h : RecordR.Rd w w.heap.size cs r) (hm : RecordR.sz r ≤ 1048576) :
    Calls Try.prog 7 #[.agg cs.toArray] w fun e w' => ∃ v, e = .returned (.tuple #[v, .bool (encOk r)]) ∧ SlOwn byteR 5 w' (InR w.heap.size w'.heap.size) v (encB r) ∧ Below w.heap.size w w' :=
  (spec_EncodeRecord cs r w h hm).mono fun _ _ ⟨_, _, h1, h2, h3⟩ => ⟨_, h1, of_own_in_ByteS h2, h3⟩
theorem impl_EncodeRecordL (cs : List Value) (r : Record) (w : World) (h : RecordR.Rd w w.heap.size cs r) (hm : RecordR.sz r ≤ 1048576) :
    Calls Try.prog 8 #[.agg cs.toArray] w fun e w' => ∃ v, e = .returned (.tuple #[v, .bool (encOk r)]) ∧ SlOwn byteR 5 w' (InR w.heap.size w'.heap.size) v (encB r) ∧ Below w.heap.size w w' := by
  obtain ⟨v0, v1, rfl, q0, q1⟩ := rd_Record h
  obtain ⟨A0, c0, rfl⟩ := q0.form
  obtain ⟨A1, c1, rfl⟩ := q1.form
  go_enter Try.func8, Try.ntmps8
  go_wp2_with fail
  refine (impl_encodeRecord _ r _ (RecordR.rd_keep h (by (repeat (first | (with_reducible exact Below.refl _ _) | (with_reducible assumption) | ((with_reducible refine Below.setCell ?_ ?_ _); rotate_left; focus (first | omega | (simp; done) | (simp; omega))) | ((with_reducible refine Below.alloc ?_ ?_ _); rotate_left; focus (first | omega | (simp; done) | (simp; omega))) | (with_reducible refine Below.drew ?_) | (with_reducible refine below_drewN ?_ _) | (refine Below.trans ?_ (Below.mono (by with_reducible assumption) (by (first | omega | (simp; done) | (simp; omega)))))))) (by first | omega | (simp; done) | (simp; omega))) hm).mono ?_
  rintro e w1 ⟨A, c, rfl, ho, hb1⟩
  go_wp2
  go_ret2
  exact ⟨.slice A (encB r).length c, rfl, of_own_in_ByteS (own_base ho (by simp)), by (repeat (first | (with_reducible exact Below.refl _ _) | (with_reducible assumption) | ((with_reducible refine Below.setCell ?_ ?_ _); rotate_left; focus (first | omega | (simp; done) | (simp; omega))) | ((with_reducible refine Below.alloc ?_ ?_ _); rotate_left; focus (first | omega | (simp; done) | (simp; omega))) | (with_reducible refine Below.drew ?_) | (with_reducible refine below_drewN ?_ _) | (refine Below.trans ?_ (Below.mono (by with_reducible assumption) (by (first | omega | (simp; done) | (simp; omega)))))))⟩
end Go.Proofs.Ytndgaakfndokgaa

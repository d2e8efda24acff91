/- AddLease of the reference, as the law asks. -/
import Derived.Test.YtbfnkfaagmjfnaaDoorAddSpec
set_option linter.unusedSimpArgs false
set_option linter.unusedVariables false
set_option maxRecDepth 20000
namespace Go.Proofs.YtbfnkfaagmjfnaaDoor
open Go.RowKit
theorem spec_AddLeaseL (cs : List Value) (f : Book) (cl : List Value) (l : Lease) (w : World) (h : BookR.Rd w w.heap.size cs f) (h2 : LeaseR.Rd w w.heap.size cl l) (hm : BookR.sz f ≤ 1048576) (hm2 : LeaseR.sz l ≤ 1048576) :
    Calls Tryd.prog 25 #[.agg cs.toArray, .agg cl.toArray] w fun e w' => ∃ cs', e = .returned (.tuple #[.agg cs'.toArray, .bool (addOk f.Leases l)]) ∧ BookR.Own w' (InR w.heap.size w'.heap.size) cs' (⟨addL f.Leases l⟩ : Book) ∧ Below w.heap.size w w' := by
  obtain ⟨v0, rfl, q0⟩ := rd_Book (_root_.id h)
  obtain ⟨A0, c0, rfl⟩ := q0.form
  obtain ⟨rfl, hs⟩ := rd_Lease h2
  have hps := addL_paths (l := l) (reads_LeaseS q0).2 hs
  refine (spec_AddLease A0 c0 f.Leases l w q0 (book_len hm) hs).mono ?_
  rintro e w' ⟨A, d, rfl, ho, hb⟩
  exact ⟨[.slice A (addL f.Leases l).length d], rfl, of_own_Book (x := ⟨addL f.Leases l⟩) (of_own_LeaseS ho rfl hps) (fun _ h => h), hb⟩
end Go.Proofs.YtbfnkfaagmjfnaaDoor

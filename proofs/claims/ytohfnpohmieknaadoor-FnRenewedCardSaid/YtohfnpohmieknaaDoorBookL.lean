/- BookOk: both sides, as the law asks. -/
import Derived.Test.YtohfnpohmieknaaDoorImplBook
import Derived.Test.YtohfnpohmieknaaDoorSpecBook
set_option linter.unusedSimpArgs false
set_option linter.unusedVariables false
set_option maxRecDepth 20000
namespace Go.Proofs.YtohfnpohmieknaaDoor
open Go.RowKit
theorem book_len {f : Book} (hm : BookR.sz f ≤ 1048576) : f.Leases.length ≤ 1048576 := by rw [sz_Book] at hm; exact Nat.le_trans (Nat.le_add_right _ _) hm
theorem spec_BookOkL (cs : List Value) (f : Book) (w : World) (h : BookR.Rd w w.heap.size cs f) (hm : BookR.sz f ≤ 1048576) :
    Calls Tryd.prog 23 #[.agg cs.toArray] w fun e w' => e = .returned (.bool (bookOk f.Leases)) ∧ Below w.heap.size w w' := by
  obtain ⟨v0, rfl, q0⟩ := rd_Book h
  obtain ⟨A0, c0, rfl⟩ := q0.form
  exact spec_BookOk A0 c0 f.Leases w q0 (Nat.le_trans (book_len hm) (by omega))
theorem impl_isBookL (cs : List Value) (f : Book) (w : World) (h : BookR.Rd w w.heap.size cs f) (hm : BookR.sz f ≤ 1048576) (hml : MaxLenInt w) :
    Calls Tryd.prog 15 #[.agg cs.toArray] w fun e w' => e = .returned (.bool (bookOk f.Leases)) ∧ Below w.heap.size w w' := by
  obtain ⟨v0, rfl, q0⟩ := rd_Book h
  obtain ⟨A0, c0, rfl⟩ := q0.form
  exact impl_isBook A0 c0 f.Leases w q0 (Nat.le_trans (book_len hm) (by omega)) hml
end Go.Proofs.YtohfnpohmieknaaDoor

/- BookOk: both sides, as the law asks. -/
import Derived.Test.YtbfnkfaagmjfnaaDoorImplBook
import Derived.Test.YtbfnkfaagmjfnaaDoorSpecBook
set_option linter.unusedSimpArgs false
set_option linter.unusedVariables false
set_option maxRecDepth 20000
namespace Go.Proofs.YtbfnkfaagmjfnaaDoor
open Go.RowKit
theorem book_len {f : Book} (hm : BookR.sz f ≤ 1048576) : f.Leases.length ≤ 1048576 := by rw [sz_Book] at hm; exact Nat.le_trans (Nat.le_add_right _ _) hm
theorem spec_BookOkL (cs : List Value) (f : Book) (w : World) (h : BookR.Rd w w.heap.size cs f) (hm : BookR.sz f ≤ 1048576) :
    Calls Tryd.prog 14 #[.agg cs.toArray] w fun e w' => e = .returned (.bool (bookOk f.Leases)) ∧ Below w.heap.size w w' := by
  obtain ⟨v0, rfl, q0⟩ := rd_Book h
  obtain ⟨A0, c0, rfl⟩ := q0.form
  exact spec_BookOk A0 c0 f.Leases w q0 (Nat.le_trans (book_len hm) (by omega))
theorem impl_isBookL (cs : List Value) (f : Book) (w : World) (h : BookR.Rd w w.heap.size cs f) (hm : BookR.sz f ≤ 1048576) (hml : MaxLenInt w) :
    Calls Tryd.prog 34 #[.agg cs.toArray] w fun e w' => e = .returned (.bool (bookOk f.Leases)) ∧ Below w.heap.size w w' := by
  obtain ⟨v0, rfl, q0⟩ := rd_Book h
  obtain ⟨A0, c0, rfl⟩ := q0.form
  exact impl_isBook A0 c0 f.Leases w q0 (Nat.le_trans (book_len hm) (by omega)) hml
theorem impl_BookOkL (cs : List Value) (f : Book) (w : World) (h : BookR.Rd w w.heap.size cs f) (hm : BookR.sz f ≤ 1048576) (hml : MaxLenInt w) :
    Calls Tryd.prog 16 #[.agg cs.toArray] w fun e w' => e = .returned (.bool (bookOk f.Leases)) ∧ Below w.heap.size w w' := by
  have HM := Lib.hid (fun (w' : World) (hb : Below w.heap.size w w') => hml.keep hb)
  obtain ⟨v0, rfl, q0⟩ := rd_Book (id h)
  obtain ⟨A0, c0, rfl⟩ := q0.form
  go_enter Tryd.func16, Tryd.ntmps16
  go_wp2_with fail
  refine (impl_isBookL _ f _ (BookR.rd_keep h (by (repeat (first | (with_reducible exact Below.refl _ _) | (with_reducible assumption) | ((with_reducible refine Below.setCell ?_ ?_ _); rotate_left; focus (first | omega | (simp; done) | (simp; omega))) | ((with_reducible refine Below.alloc ?_ ?_ _); rotate_left; focus (first | omega | (simp; done) | (simp; omega))) | (with_reducible refine Below.drew ?_) | (with_reducible refine below_drewN ?_ _) | (refine Below.trans ?_ (Below.mono (by with_reducible assumption) (by (first | omega | (simp; done) | (simp; omega)))))))) (by first | omega | (simp; done) | (simp; omega))) hm (HM.out _ (by (repeat (first | (with_reducible exact Below.refl _ _) | (with_reducible assumption) | ((with_reducible refine Below.setCell ?_ ?_ _); rotate_left; focus (first | omega | (simp; done) | (simp; omega))) | ((with_reducible refine Below.alloc ?_ ?_ _); rotate_left; focus (first | omega | (simp; done) | (simp; omega))) | (with_reducible refine Below.drew ?_) | (with_reducible refine below_drewN ?_ _) | (refine Below.trans ?_ (Below.mono (by with_reducible assumption) (by (first | omega | (simp; done) | (simp; omega)))))))))).mono ?_
  rintro e w1 ⟨rfl, hb1⟩
  go_wp2
  go_ret
  exact ⟨rfl, by (repeat (first | (with_reducible exact Below.refl _ _) | (with_reducible assumption) | ((with_reducible refine Below.setCell ?_ ?_ _); rotate_left; focus (first | omega | (simp; done) | (simp; omega))) | ((with_reducible refine Below.alloc ?_ ?_ _); rotate_left; focus (first | omega | (simp; done) | (simp; omega))) | (with_reducible refine Below.drew ?_) | (with_reducible refine below_drewN ?_ _) | (refine Below.trans ?_ (Below.mono (by with_reducible assumption) (by (first | omega | (simp; done) | (simp; omega)))))))⟩
end Go.Proofs.YtbfnkfaagmjfnaaDoor

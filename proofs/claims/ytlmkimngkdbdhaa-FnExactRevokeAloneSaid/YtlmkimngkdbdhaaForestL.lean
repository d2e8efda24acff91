/- ForestOk, Depth: both sides, as the law asks. -/
import Derived.Test.YtlmkimngkdbdhaaImplForest
import Derived.Test.YtlmkimngkdbdhaaSpecForest
set_option linter.unusedSimpArgs false
set_option linter.unusedVariables false
namespace Go.Proofs.Ytlmkimngkdbdhaa
open Go.RowKit
theorem spec_ForestOkL (cs : List Value) (f : Forest) (w : World) (h : ForestR.Rd w w.heap.size cs f) (hm : ForestR.sz f ≤ 1048576) :
    Calls Try.prog 10 #[.agg cs.toArray] w fun e w' => e = .returned (.bool (forestOk f.Tokens)) ∧ Below w.heap.size w w' := by
  obtain ⟨v0, rfl, q0⟩ := rd_Forest h
  obtain ⟨A0, c0, rfl⟩ := q0.form
  rw [sz_Forest] at hm
  exact spec_ForestOk A0 c0 f.Tokens w q0 hm
theorem impl_isForestL (cs : List Value) (f : Forest) (w : World) (h : ForestR.Rd w w.heap.size cs f) (hm : ForestR.sz f ≤ 1048576) :
    Calls Try.prog 36 #[.agg cs.toArray] w fun e w' => e = .returned (.bool (forestOk f.Tokens)) ∧ Below w.heap.size w w' := by
  obtain ⟨v0, rfl, q0⟩ := rd_Forest h
  obtain ⟨A0, c0, rfl⟩ := q0.form
  rw [sz_Forest] at hm
  exact impl_isForest A0 c0 f.Tokens w q0 hm
theorem impl_ForestOkL (cs : List Value) (f : Forest) (w : World) (h : ForestR.Rd w w.heap.size cs f) (hm : ForestR.sz f ≤ 1048576) :
    Calls Try.prog 12 #[.agg cs.toArray] w fun e w' => e = .returned (.bool (forestOk f.Tokens)) ∧ Below w.heap.size w w' := by
  obtain ⟨v0, rfl, q0⟩ := rd_Forest (id h)
  obtain ⟨A0, c0, rfl⟩ := q0.form
  go_enter Try.func12, Try.ntmps12
  go_wp2_with fail
  refine (impl_isForestL _ f _ (ForestR.rd_keep h (by (repeat (first | (with_reducible exact Below.refl _ _) | (with_reducible assumption) | ((with_reducible refine Below.setCell ?_ ?_ _); rotate_left; focus (first | omega | (simp; done) | (simp; omega))) | ((with_reducible refine Below.alloc ?_ ?_ _); rotate_left; focus (first | omega | (simp; done) | (simp; omega))) | (with_reducible refine Below.drew ?_) | (with_reducible refine below_drewN ?_ _) | (refine Below.trans ?_ (Below.mono (by with_reducible assumption) (by (first | omega | (simp; done) | (simp; omega)))))))) (by first | omega | (simp; done) | (simp; omega))) hm).mono ?_
  rintro e w1 ⟨rfl, hb1⟩
  go_wp2
  go_ret
  exact ⟨rfl, by (repeat (first | (with_reducible exact Below.refl _ _) | (with_reducible assumption) | ((with_reducible refine Below.setCell ?_ ?_ _); rotate_left; focus (first | omega | (simp; done) | (simp; omega))) | ((with_reducible refine Below.alloc ?_ ?_ _); rotate_left; focus (first | omega | (simp; done) | (simp; omega))) | (with_reducible refine Below.drew ?_) | (with_reducible refine below_drewN ?_ _) | (refine Below.trans ?_ (Below.mono (by with_reducible assumption) (by (first | omega | (simp; done) | (simp; omega)))))))⟩
end Go.Proofs.Ytlmkimngkdbdhaa

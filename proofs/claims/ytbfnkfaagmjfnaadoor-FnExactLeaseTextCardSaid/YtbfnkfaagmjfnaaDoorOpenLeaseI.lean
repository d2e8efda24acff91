/- A lease as an argument, with the range of its numbers; the listed table of powers of ten. -/
import Derived.Test.YtbfnkfaagmjfnaaDoorOpen3
import Derived.Test.YtbfnkfaagmjfnaaDoorLeaseText
import Derived.Lib.LaidTab
import Derived.MakeChecks
set_option linter.unusedSimpArgs false
set_option linter.unusedVariables false
set_option maxRecDepth 20000
namespace Go.Proofs.YtbfnkfaagmjfnaaDoor
open Go.ChangeShapes Go.WideShapes Go.ChangeAt Go.RowKit Go.Joins
theorem i64_wf {n : Int} (h : (Lit.int .i64 n).wf = true) : I64 n := by
  unfold Lit.wf at h
  rw [Bool.and_eq_true, decide_eq_true_eq, decide_eq_true_eq] at h
  exact ⟨by have h1 := h.1; have e : IntKind.i64.min = -9223372036854775808 := rfl; omega, by have h1 := h.2; have e : IntKind.i64.max = 9223372036854775807 := rfl; omega⟩
theorem open_structQ {H : Type} {enc : TypeId × Value → H} {P : Program} {w : World} {base : Nat} {spare : Nat → Bool} {held : Bool} {α : Type} {R : Rep α} {Q : α → Prop} {r : Reach} {b0 : Nat} {t : TypeId} {fs : Array Field} {v : Value} {d : DataW H} {p : List MemPlace} (hs : P.underlying t = some (.struct fs)) (hC : P.cellsOf t = R.m)
    (hv : Value.okWide P w r b0 t v) (h : DataW.Trod enc P w base spare held t v d p) (hd : ∀ n cs y, DataW.trod enc P w base spare held n t cs = some y → cs.length = R.m → ∃ a, R.Rd w w.heap.size cs a ∧ Q a) :
    ∃ (cs : List Value) (a : α), v = .agg cs.toArray ∧ R.Rd w w.heap.size cs a ∧ Q a := by
  obtain ⟨cs, rfl, hsz⟩ := okWide_struct hs hv
  obtain ⟨fuel, hf⟩ := h
  have hl : cs.toList.length = R.m := by rw [Array.length_toList, hsz, hC]
  obtain ⟨a, ha⟩ := hd _ _ _ (by simpa [Value.cells] using hf) hl
  exact ⟨cs.toList, a, by simp, ha⟩
theorem openI_Lease {H : Type} {enc : TypeId × Value → H} {w : World} {base : Nat} {spare : Nat → Bool} {held : Bool} {fuel : Nat} {cs : List Value} {x : DataW H × List MemPlace} (h : DataW.trod enc Tryd.prog w base spare held fuel 23 cs = some x) (hl : cs.length = 6) : ∃ a : Lease, LeaseR.Rd w w.heap.size cs a ∧ I64 a.Id ∧ I64 a.Token ∧ I64 a.Ends := by
  obtain ⟨c0, c1, c2, c3, c4, c5, rfl⟩ : ∃ c0 c1 c2 c3 c4 c5, cs = [c0, c1, c2, c3, c4, c5] := by
    match cs, hl with
    | [c0, c1, c2, c3, c4, c5], _ => exact ⟨c0, c1, c2, c3, c4, c5, rfl⟩
  obtain ⟨n0, y0, hy0⟩ := struct_field Tryd.underlying23 (by kernel_rfl) h (j := 0) rfl rfl
  obtain ⟨x0, e0, _, w0⟩ := DataW.trod_int Tryd.underlying3 hy0
  simp only [List.cons.injEq, and_true] at e0
  subst e0
  obtain ⟨n1, y1, hy1⟩ := struct_field Tryd.underlying23 (by kernel_rfl) h (j := 1) rfl rfl
  obtain ⟨x1, e1, _, w1⟩ := DataW.trod_int Tryd.underlying3 hy1
  simp only [List.cons.injEq, and_true] at e1
  subst e1
  obtain ⟨n2, y2, hy2⟩ := struct_field Tryd.underlying23 (by kernel_rfl) h (j := 2) rfl rfl
  obtain ⟨x2, e2, _, w2⟩ := DataW.trod_string Tryd.underlying9 hy2
  simp only [List.cons.injEq, and_true] at e2
  subst e2
  obtain ⟨n3, y3, hy3⟩ := struct_field Tryd.underlying23 (by kernel_rfl) h (j := 3) rfl rfl
  obtain ⟨x3, e3, _, w3⟩ := DataW.trod_int Tryd.underlying3 hy3
  simp only [List.cons.injEq, and_true] at e3
  subst e3
  obtain ⟨n4, y4, hy4⟩ := struct_field Tryd.underlying23 (by kernel_rfl) h (j := 4) rfl rfl
  obtain ⟨x4, e4, _, w4⟩ := DataW.trod_int Tryd.underlying3 hy4
  simp only [List.cons.injEq, and_true] at e4
  subst e4
  obtain ⟨n5, y5, hy5⟩ := struct_field Tryd.underlying23 (by kernel_rfl) h (j := 5) rfl rfl
  obtain ⟨x5, e5, _, w5⟩ := DataW.trod_int Tryd.underlying3 hy5
  simp only [List.cons.injEq, and_true] at e5
  subst e5
  exact ⟨⟨x0, x1, x2, x3, x4, x5⟩, of_rd_Lease (x := ⟨x0, x1, x2, x3, x4, x5⟩) (by simpa [maxLen] using w2), i64_wf w0, i64_wf w1, i64_wf w4⟩
theorem laidMet_tail {P : Program} {x : String × DataW Unit} {rest : List (String × DataW Unit)} {w : World} (h : laidMet P (x :: rest) w) : laidMet P rest w := by
  obtain ⟨ps, ⟨g, t, cs, fuel, p, q, h1, h2, h3, h4, h5, rfl⟩, hn, hc⟩ := h
  exact ⟨q, h5, (List.nodup_append.1 hn).2.1, fun b off hm => hc b off (List.mem_append_right _ hm)⟩
theorem pow10_laid {w : World} (h : laidMetH Tryd.prog Rows.fnExactLeaseTextRow.laid w) : Pow10Is w := by
  rw [MakeChecks.laidMetH_plain _ _ _ (by kernel_rfl)] at h
  exact Lib.tabIs_of_head (zs := Lib.pow10Tab) (k := .u64) (g := 0) (t := 92) (e := 77) (n := 20) (by kernel_rfl) (by kernel_rfl) Tryd.underlying92 Tryd.underlying77 (by kernel_rfl) (by kernel_rfl) (laidMet_tail (laidMet_tail h))
end Go.Proofs.YtbfnkfaagmjfnaaDoor

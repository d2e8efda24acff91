/- FnExactAppendLog: for every input the law answers true, and the input reads afterwards as it read before. No condition. -/
import Derived.Test.YtpilgfcdffledaaLawAppendLog
import Derived.Test.YtpilgfcdffledaaOpen2
import Derived.Test.YtpilgfcdffledaaOpen2S
namespace Go.Proofs.Ytpilgfcdffledaa
open Go.ChangeShapes Go.WideShapes Go.ChangeAt Go.RowKit Go.Joins
theorem own_ : ownKnob Try.prog.godebug = none := by kernel_rfl
theorem laidOut_ : laidOutB Try.prog = true := by kernel_rfl
set_option maxRecDepth 100000 in
theorem lifted_FnExactAppendLog (os : Os) (started : os.Started) (H : Type) (enc : TypeId × Value → H) :
    ReturnsInHanded {} Try.checked os 6 .any (Rows.fnExactAppendLogSpec.pre6 enc Try.prog Try.f6 Rows.fnExactAppendLogRow.domain false) (Rows.fnExactAppendLogSpec.post enc Try.prog Try.f6 false true false false) := by
  refine returnsInHanded_of_change (C := Try.checked) own_ started (by kernel_rfl) Try.func6
    (ChangeSpec.witness6 (enc := enc) (C := Try.checked) false ⟨#[], #[.agg #[.slice none 0 0, .slice none 0 0], .agg #[.int .i64 0, .slice none 0 0, .slice none 0 0]], []⟩ 8 (by kernel_rfl) (by kernel_rfl) (by kernel_rfl) (by kernel_rfl)) ?_
  intro W base args ds gs before hval0 hW hcnd _
  have hval : ∀ (j : Nat) t v, Try.f6.params[j]? = some t → args[j]? = some v → Value.okWide Try.prog W .any base t v := hval0
  have hW' := hW
  obtain ⟨p, q, hA0, hV, rfl, hfz, hnd⟩ := hW
  have hA : DataW.TrodAll enc Try.prog W 0 (fun _ => true) true Try.f6.params.toList args.toList ds p := hA0
  rw [Try.params6] at hA hval
  obtain ⟨v0, v1, d0, d1, p0, p1, rfl, rfl, rfl, h0, h1⟩ := trodAll_two hA
  obtain ⟨rfl, rfl⟩ := trodVars_none hV
  have h0k := h0
  have h1k := h1
  obtain ⟨c0_0, c0_1, y0_0, y0_1, m0, rfl, _, _, hy0_0, hy0_1⟩ := open_agg2 Try.underlying42 (by kernel_rfl) (by kernel_rfl) (hval 0 42 v0 rfl rfl) h0
  obtain ⟨x0_0, hs0_0⟩ := open_sl (R := byteR) (by decide) Try.underlying27 (by kernel_rfl) hy0_0 (fun n cs y h _ => open2_byte Try.underlying5 h)
  obtain ⟨x0_1, hs0_1⟩ := open_sl (R := byteR) (by decide) Try.underlying27 (by kernel_rfl) hy0_1 (fun n cs y h _ => open2_byte Try.underlying5 h)
  obtain ⟨c1_0, c1_1, c1_2, y1_0, y1_1, y1_2, m1, rfl, _, _, hy1_0, hy1_1, hy1_2⟩ := open_agg3 Try.underlying25 (by kernel_rfl) (by kernel_rfl) (hval 1 25 v1 rfl rfl) h1
  obtain ⟨x1_0, e1_0, _, wx1_0⟩ := DataW.trod_int Try.underlying3 hy1_0
  simp only [List.cons.injEq, and_true] at e1_0
  subst e1_0
  obtain ⟨x1_1, hs1_1⟩ := open_sl (R := intR) (by decide) Try.underlying22 (by kernel_rfl) hy1_1 (fun n cs y h _ => open2_int Try.underlying3 h)
  obtain ⟨x1_2, hs1_2⟩ := open_sl (R := strR) (by decide) Try.underlying23 (by kernel_rfl) hy1_2 (fun n cs y h _ => open2_str Try.underlying9 h)
  clear hA0 hval0
  simp only [List.append_nil] at hW'
  refine (law_FnExactAppendLog _ ⟨x0_0, x0_1⟩ _ ⟨x1_0, x1_1, x1_2⟩ W (of_rd_Disk (x := ⟨x0_0, x0_1⟩) hs0_0 hs0_1) (of_rd_Record (x := ⟨x1_0, x1_1, x1_2⟩) hs1_1 hs1_2)).mono fun e W' ⟨he, hnx⟩ => ?_
  subst he
  have hlt0 : ∀ x ∈ p0, x.block < W.heap.size := fun x hx => by simpa using hW'.lt x (by simp [hx])
  have hlt1 : ∀ x ∈ p1, x.block < W.heap.size := fun x hx => by simpa using hW'.lt x (by simp [hx])
  exact ⟨_, rfl, _, _, _, [], _, [], hW', trodAll_mk1 (shut_bool Try.underlying4 true), trodAll_mk2 (Below.trod laidOut_ (by kernel_rfl) (of_decide_eq_true (by kernel_rfl)) h0k hnx hlt0) (Below.trod laidOut_ (by kernel_rfl) (of_decide_eq_true (by kernel_rfl)) h1k hnx hlt1), rfl, hnx.frame _, fun h => by cases h⟩
theorem holds_FnExactAppendLog : Rows.FnExactAppendLogSaid :=
  OpenClaim.holds_of_wide 6 Try.f6 rfl rfl rfl rfl rfl rfl rfl ⟨rfl, rfl, rfl, rfl, rfl⟩ rfl rfl rfl rfl rfl (by kernel_rfl) Try.func6 (by kernel_rfl)
    (of_decide_eq_true (by kernel_rfl)) (by unfold Func.isWrapper; rw [if_neg (of_decide_eq_false (by kernel_rfl))]; exact ⟨rfl, rfl⟩)
    (fun os started H enc _ => lifted_FnExactAppendLog os started H enc)
end Go.Proofs.Ytpilgfcdffledaa

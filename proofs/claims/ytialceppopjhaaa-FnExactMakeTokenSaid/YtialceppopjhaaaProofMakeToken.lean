/- FnExactMakeToken: for every input the law answers true, and the input reads afterwards as it read before. No condition. -/
import Derived.Test.YtialceppopjhaaaLawMakeToken
import Derived.Test.YtialceppopjhaaaOpen2
import Derived.Test.YtialceppopjhaaaOpen2S
import Derived.Test.YtialceppopjhaaaOpenForest
set_option linter.unusedSimpArgs false
set_option linter.unusedVariables false
namespace Go.Proofs.Ytialceppopjhaaa
open Go.ChangeShapes Go.WideShapes Go.ChangeAt Go.RowKit Go.Joins
theorem own_ : ownKnob Try.prog.godebug = none := by kernel_rfl
theorem laidOut_ : laidOutB Try.prog = true := by kernel_rfl
set_option maxRecDepth 100000 in
theorem lifted_FnExactMakeToken (os : Os) (started : os.Started) (H : Type) (enc : TypeId × Value → H) :
    ReturnsInHanded {} Try.checked os 6 .any (Rows.fnExactMakeTokenSpec.pre6 enc Try.prog Try.f6 Rows.fnExactMakeTokenRow.domain false) (Rows.fnExactMakeTokenSpec.post enc Try.prog Try.f6 false true false false) := by
  refine returnsInHanded_of_change (C := Try.checked) own_ started (by kernel_rfl) Try.func6
    (ChangeSpec.witness6 (enc := enc) (C := Try.checked) false ⟨#[], #[.agg #[.slice none 0 0], .agg #[.int .i64 0, .int .i64 0, .slice none 0 0, .int .i64 0, .int .i64 0, .int .i64 0, .int .i64 0]], []⟩ 8 (by kernel_rfl) (by kernel_rfl) (by kernel_rfl) (by kernel_rfl)) ?_
  intro W base args ds gs before hval0 hW hcnd _
  have hval : ∀ (j : Nat) t v, Try.f6.params[j]? = some t → args[j]? = some v → Value.okWide Try.prog W .any base t v := hval0
  have hW' := hW
  obtain ⟨p, q, hA0, hV, rfl, hfz, hnd⟩ := hW
  have hA : DataW.TrodAll enc Try.prog W 0 (fun _ => true) true Try.f6.params.toList args.toList ds p := hA0
  rw [Try.params6] at hA hval
  obtain ⟨v0, v1, d0, d1, p0, p1, rfl, rfl, rfl, h0, h1⟩ := trodAll_two hA
  obtain ⟨rfl, rfl⟩ := trodVars_none hV
  have h0k := h0
  have h1k := h1
  obtain ⟨l0, x0, rfl, hs0⟩ := open_struct (R := ForestR) Try.underlying53 (by kernel_rfl) (hval 0 53 v0 rfl rfl) h0 (fun n cs y h hl => open2_Forest h hl)
  obtain ⟨l1, x1, rfl, hs1⟩ := open_struct (R := TokenR) Try.underlying54 (by kernel_rfl) (hval 1 54 v1 rfl rfl) h1 (fun n cs y h hl => open2_Token h hl)
  clear hA0 hval0
  simp only [List.append_nil] at hW'
  refine (law_FnExactMakeToken _ x0 _ x1 W hs0 hs1).mono fun e W' ⟨he, hnx⟩ => ?_
  subst he
  have hlt0 : ∀ x ∈ p0, x.block < W.heap.size := fun x hx => by simpa using hW'.lt x (by simp [hx])
  have hlt1 : ∀ x ∈ p1, x.block < W.heap.size := fun x hx => by simpa using hW'.lt x (by simp [hx])
  exact ⟨_, rfl, _, _, _, [], _, [], hW', trodAll_mk1 (shut_bool Try.underlying4 true), trodAll_mk2 (Below.trod laidOut_ (by kernel_rfl) (of_decide_eq_true (by kernel_rfl)) h0k hnx hlt0) (Below.trod laidOut_ (by kernel_rfl) (of_decide_eq_true (by kernel_rfl)) h1k hnx hlt1), rfl, hnx.frame _, fun h => by cases h⟩
theorem holds_FnExactMakeToken : Rows.FnExactMakeTokenSaid :=
  OpenClaim.holds_of_wide 6 Try.f6 rfl rfl rfl rfl rfl rfl rfl ⟨rfl, rfl, rfl, rfl, rfl⟩ rfl rfl rfl rfl rfl (by kernel_rfl) Try.func6 (by kernel_rfl)
    (of_decide_eq_true (by kernel_rfl)) (by unfold Func.isWrapper; rw [if_neg (of_decide_eq_false (by kernel_rfl))]; exact ⟨rfl, rfl⟩)
    (fun os started H enc _ => lifted_FnExactMakeToken os started H enc)
end Go.Proofs.Ytialceppopjhaaa

/- FnExactCountUnder: for every input the law answers true, and the input reads afterwards as it read before. No condition. -/
import Derived.Test.YtbfnkfaagmjfnaaDoorLawCountUnder
import Derived.Test.YtbfnkfaagmjfnaaDoorOpen2
import Derived.Test.YtbfnkfaagmjfnaaDoorOpen2S
import Derived.Test.YtbfnkfaagmjfnaaDoorOpenBook
import Derived.Test.YtbfnkfaagmjfnaaDoorLift
import Derived.Test.YtbfnkfaagmjfnaaDoorTie
import Derived.Test.YtbfnkfaagmjfnaaDoorCards
import Derived.ChangeMaps5
set_option linter.unusedSimpArgs false
set_option linter.unusedVariables false
set_option maxRecDepth 20000
namespace Go.Proofs.YtbfnkfaagmjfnaaDoor
open Go.ChangeShapes Go.WideShapes Go.ChangeAt Go.RowKit Go.Joins
theorem own_ : ownKnob Tryd.prog.godebug = none := by kernel_rfl
theorem laidOut_ : laidOutB Tryd.prog = true := by kernel_rfl
set_option maxRecDepth 100000 in
theorem lifted_FnExactCountUnder (os : Os) (started : os.Started) (H : Type) (enc : TypeId × Value → H) :
    ReturnsInHanded {} Tryd.checked os 7 .any (fun w args => (Rows.fnExactCountUnderSpec.pre enc Tryd.prog Tryd.f7 Rows.fnExactCountUnderRow.domain false w args ∧ laidMetH Tryd.prog Rows.fnExactCountUnderRow.laid w) ∧ sizedMet enc Tryd.prog Tryd.f7 (OpenSpec.ofChange Rows.fnExactCountUnderSpec) false w args) (Rows.fnExactCountUnderSpec.post enc Tryd.prog Tryd.f7 false true false false) := by
  refine handed_all (C := Tryd.checked) (X := fun w _ => laidMetH Tryd.prog Rows.fnExactCountUnderRow.laid w) (fun _ _ _ hh h => h.of_heap hh) own_ started (by kernel_rfl) Tryd.func7
    (ChangeSpec.witness_shaped (enc := enc) (C := Tryd.checked) (os := os) (X := fun w _ => laidMetH Tryd.prog Rows.fnExactCountUnderRow.laid w) false (World.laidAll Tryd.prog os Rows.fnExactCountUnderRow.laid) #[.agg #[.slice none 0 0], .string ByteArray.empty] 8 (World.laidAll_os _ _ _)
      (World.shaped_of_ZipB (by kernel_rfl) (by kernel_rfl)) (by kernel_rfl) (by kernel_rfl) (by kernel_rfl)
      (by rw [MakeChecks.laidMetH_plain _ _ _ (by kernel_rfl)]; exact laidMet_laidAll _ (by kernel_rfl) (by kernel_rfl))) ?_
  intro W base args ds gs before hval0 hW hcnd hL hsh
  have hval : ∀ (j : Nat) t v, Tryd.f7.params[j]? = some t → args[j]? = some v → Value.okWide Tryd.prog W .any base t v := hval0
  have hW' := hW
  obtain ⟨p, q, hA0, hV, rfl, hfz, hnd⟩ := hW
  have hA : DataW.TrodAll enc Tryd.prog W 0 (fun _ => true) true Tryd.f7.params.toList args.toList ds p := hA0
  rw [Tryd.params7] at hA hval
  obtain ⟨v0, v1, d0, d1, p0, p1, rfl, rfl, rfl, h0, h1⟩ := trodAll_two hA
  obtain ⟨rfl, rfl⟩ := trodVars_none hV
  have h0k := h0
  have h1k := h1
  obtain ⟨l0, x0, rfl, hs0⟩ := open_struct (R := BookR) Tryd.underlying31 (by kernel_rfl) (hval 0 31 v0 rfl rfl) h0 (fun n cs y h hl => open2_Book h hl)
  obtain ⟨x1, rfl, rfl, rfl, wx1⟩ := Go.ChangeMaps.open_string Tryd.underlying9 (hval 1 9 v1 rfl rfl) h1
  clear hA0 hval0
  simp only [List.append_nil] at hW'
  refine (law_FnExactCountUnder _ x0 x1 W hs0 (maxLen_shaped hsh)).mono fun e W' ⟨he, hnx⟩ => ?_
  subst he
  have hlt0 : ∀ x ∈ p0, x.block < W.heap.size := fun x hx => by simpa using hW'.lt x (by simp [hx])
  exact ⟨_, rfl, _, _, _, [], _, [], hW', trodAll_mk1 (shut_bool Tryd.underlying4 true), trodAll_mk2 (Below.trod laidOut_ (by kernel_rfl) (of_decide_eq_true (by kernel_rfl)) h0k hnx hlt0) (Go.ChangeMaps.shut_string Tryd.underlying9 wx1), rfl, hnx.frame _, fun h => by cases h⟩
theorem holds_FnExactCountUnder : Rows.FnExactCountUnderSaid :=
  OpenClaim.holds_of_wide 7 Tryd.f7 rfl rfl rfl rfl rfl rfl rfl ⟨rfl, rfl, rfl, rfl, rfl⟩ rfl rfl rfl rfl rfl (by kernel_rfl) Tryd.func7 (by kernel_rfl)
    (of_decide_eq_true (by kernel_rfl)) (by unfold Func.isWrapper; rw [if_neg (of_decide_eq_false (by kernel_rfl))]; exact ⟨rfl, rfl⟩)
    (fun os started H enc _ => lifted_FnExactCountUnder os started H enc)
theorem card_FnExactCountUnder : Rows.FnExactCountUnderCardSaid :=
  Claim7.holds_tied_plain_at .later [] Rows.fnExactCountUnderCard.laidKinds true Rows.fnExactCountUnderCard.stood.harness false holds_FnExactCountUnder (fun _ h => by cases h) (by kernel_rfl) (fun _ h => by cases h) fnExactCountUnder_row_tie rfl ⟨rfl, rfl⟩ (by kernel_rfl) (by kernel_rfl)
    (fun f fn hf hfn => by
      obtain rfl : f = 7 := Option.some.inj ((show Tryd.prog.funcNamed Rows.fnExactCountUnderRow.func = some 7 by kernel_rfl).symm.trans hf) |>.symm
      obtain rfl : fn = Tryd.f7 := (Option.some.inj (Tryd.func7.symm.trans hfn)).symm
      exact ⟨by kernel_rfl, fun j t ht => by
        rw [Tryd.params7] at ht
        have hm : t ∈ [31, 9] := by simpa using Array.mem_of_getElem? ht
        have hall : ([31, 9].all fun u => !Tryd.prog.wantsStandIn u) = true := by kernel_rfl
        exact (show Tryd.prog.wantsStandIn t = false by simpa using List.all_eq_true.1 hall t hm)⟩)
    (by kernel_rfl)
end Go.Proofs.YtbfnkfaagmjfnaaDoor

/- FnExactPowersOf: for every input the law answers true, and the input reads afterwards as it read before. No condition. -/
import Derived.Test.YtoijmnnjcoogkaaDoorLawPowersOf
import Derived.Test.YtoijmnnjcoogkaaDoorOpen2
import Derived.Test.YtoijmnnjcoogkaaDoorPkOpn
import Derived.Test.YtoijmnnjcoogkaaDoorLift
import Derived.Test.YtoijmnnjcoogkaaDoorTie
import Derived.Test.YtoijmnnjcoogkaaDoorCards
set_option linter.unusedSimpArgs false
set_option linter.unusedVariables false
set_option maxRecDepth 20000
namespace Go.Proofs.YtoijmnnjcoogkaaDoor
open Go.ChangeShapes Go.WideShapes Go.ChangeAt Go.RowKit Go.Joins
theorem own_ : ownKnob Tryd.prog.godebug = none := by kernel_rfl
theorem laidOut_ : laidOutB Tryd.prog = true := by kernel_rfl
set_option maxRecDepth 100000 in
theorem lifted_FnExactPowersOf (os : Os) (started : os.Started) (H : Type) (enc : TypeId × Value → H) :
    ReturnsInHanded {} Tryd.checked os 3 .any (fun w args => (Rows.fnExactPowersOfSpec.pre enc Tryd.prog Tryd.f3 Rows.fnExactPowersOfRow.domain false w args ∧ laidMetH Tryd.prog Rows.fnExactPowersOfRow.laid w) ∧ sizedMet enc Tryd.prog Tryd.f3 (OpenSpec.ofChange Rows.fnExactPowersOfSpec) false w args) (Rows.fnExactPowersOfSpec.post enc Tryd.prog Tryd.f3 false true false false) := by
  refine handed_all (C := Tryd.checked) (X := fun w _ => laidMetH Tryd.prog Rows.fnExactPowersOfRow.laid w) (fun _ _ _ hh h => h.of_heap hh) own_ started (by kernel_rfl) Tryd.func3
    (ChangeSpec.witness_shaped (enc := enc) (C := Tryd.checked) (os := os) (X := fun w _ => laidMetH Tryd.prog Rows.fnExactPowersOfRow.laid w) false (World.laidAll Tryd.prog os Rows.fnExactPowersOfRow.laid) #[.agg #[.slice none 0 0], .int .i64 0, .slice none 0 0] 8 (World.laidAll_os _ _ _)
      (World.shaped_of_ZipB (by kernel_rfl) (by kernel_rfl)) (by kernel_rfl) (by kernel_rfl) (by kernel_rfl)
      (by rw [MakeChecks.laidMetH_plain _ _ _ (by kernel_rfl)]; exact laidMet_laidAll _ (by kernel_rfl) (by kernel_rfl))) ?_
  intro W base args ds gs before hval0 hW hcnd hL hsh
  have hval : ∀ (j : Nat) t v, Tryd.f3.params[j]? = some t → args[j]? = some v → Value.okWide Tryd.prog W .any base t v := hval0
  have hW' := hW
  obtain ⟨p, q, hA0, hV, rfl, hfz, hnd⟩ := hW
  have hA : DataW.TrodAll enc Tryd.prog W 0 (fun _ => true) true Tryd.f3.params.toList args.toList ds p := hA0
  rw [Tryd.params3] at hA hval
  obtain ⟨v0, v1, v2, d0, d1, d2, p0, p1, p2, rfl, rfl, rfl, h0, h1, h2⟩ := trodAll_three hA
  obtain ⟨rfl, rfl⟩ := trodVars_none hV
  have h0k := h0
  have h1k := h1
  have h2k := h2
  obtain ⟨l0, x0, rfl, hs0⟩ := open_struct (R := ForestR) Tryd.underlying24 (by kernel_rfl) (hval 0 24 v0 rfl rfl) h0 (fun n cs y h hl => open2_Forest h hl)
  obtain ⟨x1, rfl, rfl, rfl, wx1⟩ := open_int Tryd.underlying3 (hval 1 3 v1 rfl rfl) h1
  obtain ⟨sA2, sn2, sc2, rfl⟩ := okWide_slice Tryd.underlying25 (hval 2 25 v2 rfl rfl)
  obtain ⟨fu2, hfu2⟩ := h2
  replace hfu2 : DataW.trod _ _ _ _ _ _ _ _ [_] = _ := hfu2
  obtain ⟨x2, hs2⟩ := open_sl (R := PolicyR) (by decide) Tryd.underlying25 (by kernel_rfl) hfu2 (fun n cs y h hl => open2_Policy h hl)
  clear hA0 hval0
  simp only [List.append_nil] at hW'
  refine (law_FnExactPowersOf _ x0 x1 _ x2 W hs0 hs2 (maxLen_shaped hsh)).mono fun e W' ⟨he, hnx⟩ => ?_
  subst he
  have hlt0 : ∀ x ∈ p0, x.block < W.heap.size := fun x hx => by simpa using hW'.lt x (by simp [hx])
  have hlt2 : ∀ x ∈ p2, x.block < W.heap.size := fun x hx => by simpa using hW'.lt x (by simp [hx])
  exact ⟨_, rfl, _, _, _, [], _, [], hW', trodAll_mk1 (shut_bool Tryd.underlying4 true), trodAll_mk3 (Below.trod laidOut_ (by kernel_rfl) (of_decide_eq_true (by kernel_rfl)) h0k hnx hlt0) (shut_int Tryd.underlying3 wx1) (Below.trod laidOut_ (by kernel_rfl) (of_decide_eq_true (by kernel_rfl)) h2k hnx hlt2), rfl, hnx.frame _, fun h => by cases h⟩
theorem holds_FnExactPowersOf : Rows.FnExactPowersOfSaid :=
  OpenClaim.holds_of_wide 3 Tryd.f3 rfl rfl rfl rfl rfl rfl rfl ⟨rfl, rfl, rfl, rfl, rfl⟩ rfl rfl rfl rfl rfl (by kernel_rfl) Tryd.func3 (by kernel_rfl)
    (of_decide_eq_true (by kernel_rfl)) (by unfold Func.isWrapper; rw [if_neg (of_decide_eq_false (by kernel_rfl))]; exact ⟨rfl, rfl⟩)
    (fun os started H enc _ => lifted_FnExactPowersOf os started H enc)
theorem card_FnExactPowersOf : Rows.FnExactPowersOfCardSaid :=
  Claim7.holds_tied_plain_at .later [] Rows.fnExactPowersOfCard.laidKinds true Rows.fnExactPowersOfCard.stood.harness false holds_FnExactPowersOf (fun _ h => by cases h) (by kernel_rfl) (fun _ h => by cases h) fnExactPowersOf_row_tie rfl ⟨rfl, rfl⟩ (by kernel_rfl) (by kernel_rfl)
    (fun f fn hf hfn => by
      obtain rfl : f = 3 := Option.some.inj ((show Tryd.prog.funcNamed Rows.fnExactPowersOfRow.func = some 3 by kernel_rfl).symm.trans hf) |>.symm
      obtain rfl : fn = Tryd.f3 := (Option.some.inj (Tryd.func3.symm.trans hfn)).symm
      exact ⟨by kernel_rfl, fun j t ht => by
        rw [Tryd.params3] at ht
        have hm : t ∈ [24, 3, 25] := by simpa using Array.mem_of_getElem? ht
        have hall : ([24, 3, 25].all fun u => !Tryd.prog.wantsStandIn u) = true := by kernel_rfl
        exact (show Tryd.prog.wantsStandIn t = false by simpa using List.all_eq_true.1 hall t hm)⟩)
    (by kernel_rfl)
end Go.Proofs.YtoijmnnjcoogkaaDoor

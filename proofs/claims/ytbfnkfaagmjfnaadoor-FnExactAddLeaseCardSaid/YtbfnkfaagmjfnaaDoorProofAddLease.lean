/- FnExactAddLease: for every input the law answers true, and the input reads afterwards as it read before. No condition. -/
import Derived.Test.YtbfnkfaagmjfnaaDoorLawAddLease
import Derived.Test.YtbfnkfaagmjfnaaDoorOpen2
import Derived.Test.YtbfnkfaagmjfnaaDoorOpen2S
import Derived.Test.YtbfnkfaagmjfnaaDoorOpenBook
import Derived.Test.YtbfnkfaagmjfnaaDoorLift
import Derived.Test.YtbfnkfaagmjfnaaDoorTie
import Derived.Test.YtbfnkfaagmjfnaaDoorCards
set_option linter.unusedSimpArgs false
set_option linter.unusedVariables false
set_option maxRecDepth 20000
namespace Go.Proofs.YtbfnkfaagmjfnaaDoor
open Go.ChangeShapes Go.WideShapes Go.ChangeAt Go.RowKit Go.Joins
theorem own_ : ownKnob Tryd.prog.godebug = none := by kernel_rfl
theorem laidOut_ : laidOutB Tryd.prog = true := by kernel_rfl
set_option maxRecDepth 100000 in
theorem lifted_FnExactAddLease (os : Os) (started : os.Started) (H : Type) (enc : TypeId × Value → H) :
    ReturnsInHanded {} Tryd.checked os 8 .any (fun w args => (Rows.fnExactAddLeaseSpec.pre enc Tryd.prog Tryd.f8 Rows.fnExactAddLeaseRow.domain false w args ∧ laidMetH Tryd.prog Rows.fnExactAddLeaseRow.laid w) ∧ sizedMet enc Tryd.prog Tryd.f8 (OpenSpec.ofChange Rows.fnExactAddLeaseSpec) false w args) (Rows.fnExactAddLeaseSpec.post enc Tryd.prog Tryd.f8 false true false false) := by
  refine handed_all (C := Tryd.checked) (X := fun w _ => laidMetH Tryd.prog Rows.fnExactAddLeaseRow.laid w) (fun _ _ _ hh h => h.of_heap hh) own_ started (by kernel_rfl) Tryd.func8
    (ChangeSpec.witness_shaped (enc := enc) (C := Tryd.checked) (os := os) (X := fun w _ => laidMetH Tryd.prog Rows.fnExactAddLeaseRow.laid w) false (World.laidAll Tryd.prog os Rows.fnExactAddLeaseRow.laid) #[.agg #[.slice none 0 0], .agg #[.int .i64 0, .int .i64 0, .string ByteArray.empty, .int .i64 0, .int .i64 0, .int .i64 0]] 8 (World.laidAll_os _ _ _)
      (World.shaped_of_ZipB (by kernel_rfl) (by kernel_rfl)) (by kernel_rfl) (by kernel_rfl) (by kernel_rfl)
      (by rw [MakeChecks.laidMetH_plain _ _ _ (by kernel_rfl)]; exact laidMet_laidAll _ (by kernel_rfl) (by kernel_rfl))) ?_
  intro W base args ds gs before hval0 hW hcnd hL hsh
  have hval : ∀ (j : Nat) t v, Tryd.f8.params[j]? = some t → args[j]? = some v → Value.okWide Tryd.prog W .any base t v := hval0
  have hW' := hW
  obtain ⟨p, q, hA0, hV, rfl, hfz, hnd⟩ := hW
  have hA : DataW.TrodAll enc Tryd.prog W 0 (fun _ => true) true Tryd.f8.params.toList args.toList ds p := hA0
  rw [Tryd.params8] at hA hval
  obtain ⟨v0, v1, d0, d1, p0, p1, rfl, rfl, rfl, h0, h1⟩ := trodAll_two hA
  obtain ⟨rfl, rfl⟩ := trodVars_none hV
  have h0k := h0
  have h1k := h1
  obtain ⟨l0, x0, rfl, hs0⟩ := open_struct (R := BookR) Tryd.underlying31 (by kernel_rfl) (hval 0 31 v0 rfl rfl) h0 (fun n cs y h hl => open2_Book h hl)
  obtain ⟨l1, x1, rfl, hs1⟩ := open_struct (R := LeaseR) Tryd.underlying23 (by kernel_rfl) (hval 1 23 v1 rfl rfl) h1 (fun n cs y h hl => open2_Lease h hl)
  clear hA0 hval0
  simp only [List.append_nil] at hW'
  refine (law_FnExactAddLease _ x0 _ x1 W hs0 hs1 (maxLen_shaped hsh)).mono fun e W' ⟨he, hnx⟩ => ?_
  subst he
  have hlt0 : ∀ x ∈ p0, x.block < W.heap.size := fun x hx => by simpa using hW'.lt x (by simp [hx])
  have hlt1 : ∀ x ∈ p1, x.block < W.heap.size := fun x hx => by simpa using hW'.lt x (by simp [hx])
  exact ⟨_, rfl, _, _, _, [], _, [], hW', trodAll_mk1 (shut_bool Tryd.underlying4 true), trodAll_mk2 (Below.trod laidOut_ (by kernel_rfl) (of_decide_eq_true (by kernel_rfl)) h0k hnx hlt0) (Below.trod laidOut_ (by kernel_rfl) (of_decide_eq_true (by kernel_rfl)) h1k hnx hlt1), rfl, hnx.frame _, fun h => by cases h⟩
theorem holds_FnExactAddLease : Rows.FnExactAddLeaseSaid :=
  OpenClaim.holds_of_wide 8 Tryd.f8 rfl rfl rfl rfl rfl rfl rfl ⟨rfl, rfl, rfl, rfl, rfl⟩ rfl rfl rfl rfl rfl (by kernel_rfl) Tryd.func8 (by kernel_rfl)
    (of_decide_eq_true (by kernel_rfl)) (by unfold Func.isWrapper; rw [if_neg (of_decide_eq_false (by kernel_rfl))]; exact ⟨rfl, rfl⟩)
    (fun os started H enc _ => lifted_FnExactAddLease os started H enc)
theorem card_FnExactAddLease : Rows.FnExactAddLeaseCardSaid :=
  Claim7.holds_tied_plain_at .later [] Rows.fnExactAddLeaseCard.laidKinds true Rows.fnExactAddLeaseCard.stood.harness false holds_FnExactAddLease (fun _ h => by cases h) (by kernel_rfl) (fun _ h => by cases h) fnExactAddLease_row_tie rfl ⟨rfl, rfl⟩ (by kernel_rfl) (by kernel_rfl)
    (fun f fn hf hfn => by
      obtain rfl : f = 8 := Option.some.inj ((show Tryd.prog.funcNamed Rows.fnExactAddLeaseRow.func = some 8 by kernel_rfl).symm.trans hf) |>.symm
      obtain rfl : fn = Tryd.f8 := (Option.some.inj (Tryd.func8.symm.trans hfn)).symm
      exact ⟨by kernel_rfl, fun j t ht => by
        rw [Tryd.params8] at ht
        have hm : t ∈ [31, 23] := by simpa using Array.mem_of_getElem? ht
        have hall : ([31, 23].all fun u => !Tryd.prog.wantsStandIn u) = true := by kernel_rfl
        exact (show Tryd.prog.wantsStandIn t = false by simpa using List.all_eq_true.1 hall t hm)⟩)
    (by kernel_rfl)
end Go.Proofs.YtbfnkfaagmjfnaaDoor

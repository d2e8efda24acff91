/- FnExactDepth: the walk of the law (printed by wip/gen/genlaw2.py). -/
import Derived.Test.YtlmkimngkdbdhaaDepth
import Derived.Deep.DeepCutAuto
set_option linter.unusedSimpArgs false
set_option linter.unusedVariables false
namespace Go.Proofs.Ytlmkimngkdbdhaa
open Go.RowKit
set_option maxRecDepth 20000 in
set_option maxHeartbeats 3200000 in
theorem law_FnExactDepth (cs_f : List Value) (f : Forest) (tid : Int) (w : World) (hr_f : ForestR.Rd w w.heap.size cs_f f) :
    Calls Try.prog 4 #[.agg cs_f.toArray, .int .i64 tid] w fun e w' => e = .returned (.bool true) ∧ Below w.heap.size w w' := by
  obtain ⟨vaf_0, rfl, paf_0⟩ := rd_Forest (id hr_f)
  obtain ⟨Aaf_0, caf_0, rfl⟩ := paf_0.form
  go_enter Try.func4, Try.ntmps4
  go_wp2_with fail
  refine (sz2_Forest _ f _ _ (ForestR.rd_keep hr_f (by (repeat (first | (with_reducible exact Below.refl _ _) | (with_reducible assumption) | ((with_reducible refine Below.setCell ?_ ?_ _); rotate_left; focus (first | omega | (simp; done) | (simp; omega))) | ((with_reducible refine Below.alloc ?_ ?_ _); rotate_left; focus (first | omega | (simp; done) | (simp; omega))) | (with_reducible refine Below.drew ?_) | (with_reducible refine below_drewN ?_ _) | (refine Below.trans ?_ (Below.mono (by with_reducible assumption) (by (first | omega | (simp; done) | (simp; omega)))))))) (by first | omega | (simp; done) | (simp; omega))) (by first | omega | (simp; done) | (simp; omega)) (by first | omega | (simp; done) | (simp; omega))).mono ?_
  rintro e w1 ⟨rfl, hb1⟩
  have hz1 := hb1.size; try simp at hz1
  have BKaf : Blk w1 w.heap.size 24 #[.slice Aaf_0 f.Tokens.length caf_0] := by (repeat (first | (with_reducible assumption) | ((with_reducible refine Blk.new' ?_); focus (simp; done)) | (with_reducible refine Blk.alloc ?_ _) | (with_reducible refine Blk.drew ?_) | (with_reducible refine Blk.drewN ?_ _) | ((with_reducible refine Blk.far ?_ ?_ _); rotate_left; focus (first | omega | (simp; done) | (simp; omega))) | (refine Blk.keep ?_ (by with_reducible assumption)) | (refine Blk.below ?_ (by with_reducible assumption) (by (first | omega | (simp; done) | (simp; omega))))))
  have hcaf := BKaf.cell; have hfaf := BKaf.frozen; have hlaf := BKaf.lt
  by_cases hs_f : (leftOf 1048576 (ForestR.sz f)) < 0
  · go_wp2
    go_ret
    exact ⟨rfl, by (repeat (first | (with_reducible exact Below.refl _ _) | (with_reducible assumption) | ((with_reducible refine Below.setCell ?_ ?_ _); rotate_left; focus (first | omega | (simp; done) | (simp; omega))) | ((with_reducible refine Below.alloc ?_ ?_ _); rotate_left; focus (first | omega | (simp; done) | (simp; omega))) | (with_reducible refine Below.drew ?_) | (with_reducible refine below_drewN ?_ _) | (refine Below.trans ?_ (Below.mono (by with_reducible assumption) (by (first | omega | (simp; done) | (simp; omega)))))))⟩
  have hm_f : ForestR.sz f ≤ 1048576 := by have h1 := leftOf_le (Int.not_lt.1 hs_f); omega
  go_wp2_with fail
  refine (to2_Forest _ f _ (ForestR.rd_keep hr_f (by (repeat (first | (with_reducible exact Below.refl _ _) | (with_reducible assumption) | ((with_reducible refine Below.setCell ?_ ?_ _); rotate_left; focus (first | omega | (simp; done) | (simp; omega))) | ((with_reducible refine Below.alloc ?_ ?_ _); rotate_left; focus (first | omega | (simp; done) | (simp; omega))) | (with_reducible refine Below.drew ?_) | (with_reducible refine below_drewN ?_ _) | (refine Below.trans ?_ (Below.mono (by with_reducible assumption) (by (first | omega | (simp; done) | (simp; omega)))))))) (by first | omega | (simp; done) | (simp; omega))) hm_f).mono ?_
  rintro e w2 ⟨_, rfl, hos2, hb2⟩
  obtain ⟨vs2_0, _, rfl, ps2_0, -⟩ := own_Forest (id hos2)
  obtain ⟨As2_0, cs2_0, rfl⟩ := ps2_0.form
  have hz2 := hb2.size; try simp at hz2
  replace hos2 := ForestR.own_wide hos2 (inR_mono (lo' := w1.heap.size) (hi' := w2.heap.size) (by first | omega | (simp; done) | (simp; omega)) (by first | omega | (simp; done) | (simp; omega)))
  have hss2 : ∀ g, InR (w1.heap.size) (w2.heap.size) g → InR (w1.heap.size) (w2.heap.size) g := fun _ h => h
  replace BKaf : Blk w2 w.heap.size 24 #[.slice Aaf_0 f.Tokens.length caf_0] := by (repeat (first | (with_reducible assumption) | ((with_reducible refine Blk.new' ?_); focus (simp; done)) | (with_reducible refine Blk.alloc ?_ _) | (with_reducible refine Blk.drew ?_) | (with_reducible refine Blk.drewN ?_ _) | ((with_reducible refine Blk.far ?_ ?_ _); rotate_left; focus (first | omega | (simp; done) | (simp; omega))) | (refine Blk.keep ?_ (by with_reducible assumption)) | (refine Blk.below ?_ (by with_reducible assumption) (by (first | omega | (simp; done) | (simp; omega))))))
  replace hcaf := BKaf.cell; replace hfaf := BKaf.frozen; replace hlaf := BKaf.lt
  go_wp2_with fail
  refine (spec_DepthL _ f tid _ (ForestR.rd_in (ForestR.own_offS hos2 hss2 (by (repeat (first | (with_reducible exact Out.refl _ _) | (with_reducible assumption) | ((with_reducible refine Out.setCell ?_ ?_ _); rotate_left; focus (first | (refine Or.inl ?_; (first | omega | (simp; done) | (simp; omega))) | (refine Or.inr ?_; (first | omega | (simp; done) | (simp; omega))))) | (with_reducible refine Out.alloc ?_ _) | (with_reducible refine Out.drew ?_) | (with_reducible refine Out.drewN ?_ _) | (refine Out.step ?_ (by with_reducible assumption)))))) hss2 (by first | omega | (simp; done) | (simp; omega))) hm_f).mono ?_
  rintro e w3 ⟨rfl, hb3⟩
  have hz3 := hb3.size; try simp at hz3
  replace BKaf : Blk w3 w.heap.size 24 #[.slice Aaf_0 f.Tokens.length caf_0] := by (repeat (first | (with_reducible assumption) | ((with_reducible refine Blk.new' ?_); focus (simp; done)) | (with_reducible refine Blk.alloc ?_ _) | (with_reducible refine Blk.drew ?_) | (with_reducible refine Blk.drewN ?_ _) | ((with_reducible refine Blk.far ?_ ?_ _); rotate_left; focus (first | omega | (simp; done) | (simp; omega))) | (refine Blk.keep ?_ (by with_reducible assumption)) | (refine Blk.below ?_ (by with_reducible assumption) (by (first | omega | (simp; done) | (simp; omega))))))
  replace hcaf := BKaf.cell; replace hfaf := BKaf.frozen; replace hlaf := BKaf.lt
  go_wp2_with fail
  refine (to2_Forest _ f _ (ForestR.rd_keep hr_f (by (repeat (first | (with_reducible exact Below.refl _ _) | (with_reducible assumption) | ((with_reducible refine Below.setCell ?_ ?_ _); rotate_left; focus (first | omega | (simp; done) | (simp; omega))) | ((with_reducible refine Below.alloc ?_ ?_ _); rotate_left; focus (first | omega | (simp; done) | (simp; omega))) | (with_reducible refine Below.drew ?_) | (with_reducible refine below_drewN ?_ _) | (refine Below.trans ?_ (Below.mono (by with_reducible assumption) (by (first | omega | (simp; done) | (simp; omega)))))))) (by first | omega | (simp; done) | (simp; omega))) hm_f).mono ?_
  rintro e w4 ⟨_, rfl, hox4, hb4⟩
  obtain ⟨vx4_0, _, rfl, px4_0, -⟩ := own_Forest (id hox4)
  obtain ⟨Ax4_0, cx4_0, rfl⟩ := px4_0.form
  have hz4 := hb4.size; try simp at hz4
  replace hox4 := ForestR.own_wide hox4 (inR_mono (lo' := w3.heap.size) (hi' := w4.heap.size) (by first | omega | (simp; done) | (simp; omega)) (by first | omega | (simp; done) | (simp; omega)))
  have hsx4 : ∀ g, InR (w3.heap.size) (w4.heap.size) g → InR (w3.heap.size) (w4.heap.size) g := fun _ h => h
  replace BKaf : Blk w4 w.heap.size 24 #[.slice Aaf_0 f.Tokens.length caf_0] := by (repeat (first | (with_reducible assumption) | ((with_reducible refine Blk.new' ?_); focus (simp; done)) | (with_reducible refine Blk.alloc ?_ _) | (with_reducible refine Blk.drew ?_) | (with_reducible refine Blk.drewN ?_ _) | ((with_reducible refine Blk.far ?_ ?_ _); rotate_left; focus (first | omega | (simp; done) | (simp; omega))) | (refine Blk.keep ?_ (by with_reducible assumption)) | (refine Blk.below ?_ (by with_reducible assumption) (by (first | omega | (simp; done) | (simp; omega))))))
  replace hcaf := BKaf.cell; replace hfaf := BKaf.frozen; replace hlaf := BKaf.lt
  go_wp2_with fail
  refine (impl_DepthL _ f tid _ (ForestR.rd_in (ForestR.own_offS hox4 hsx4 (by (repeat (first | (with_reducible exact Out.refl _ _) | (with_reducible assumption) | ((with_reducible refine Out.setCell ?_ ?_ _); rotate_left; focus (first | (refine Or.inl ?_; (first | omega | (simp; done) | (simp; omega))) | (refine Or.inr ?_; (first | omega | (simp; done) | (simp; omega))))) | (with_reducible refine Out.alloc ?_ _) | (with_reducible refine Out.drew ?_) | (with_reducible refine Out.drewN ?_ _) | (refine Out.step ?_ (by with_reducible assumption)))))) hsx4 (by first | omega | (simp; done) | (simp; omega))) hm_f).mono ?_
  rintro e w5 ⟨rfl, hb5⟩
  have hz5 := hb5.size; try simp at hz5
  replace BKaf : Blk w5 w.heap.size 24 #[.slice Aaf_0 f.Tokens.length caf_0] := by (repeat (first | (with_reducible assumption) | ((with_reducible refine Blk.new' ?_); focus (simp; done)) | (with_reducible refine Blk.alloc ?_ _) | (with_reducible refine Blk.drew ?_) | (with_reducible refine Blk.drewN ?_ _) | ((with_reducible refine Blk.far ?_ ?_ _); rotate_left; focus (first | omega | (simp; done) | (simp; omega))) | (refine Blk.keep ?_ (by with_reducible assumption)) | (refine Blk.below ?_ (by with_reducible assumption) (by (first | omega | (simp; done) | (simp; omega))))))
  replace hcaf := BKaf.cell; replace hfaf := BKaf.frozen; replace hlaf := BKaf.lt
  have BKx4 : Blk w5 w4.heap.size 29 #[.slice Ax4_0 f.Tokens.length cx4_0] := by (repeat (first | (with_reducible assumption) | ((with_reducible refine Blk.new' ?_); focus (simp; done)) | (with_reducible refine Blk.alloc ?_ _) | (with_reducible refine Blk.drew ?_) | (with_reducible refine Blk.drewN ?_ _) | ((with_reducible refine Blk.far ?_ ?_ _); rotate_left; focus (first | omega | (simp; done) | (simp; omega))) | (refine Blk.keep ?_ (by with_reducible assumption)) | (refine Blk.below ?_ (by with_reducible assumption) (by (first | omega | (simp; done) | (simp; omega))))))
  have hcx4 := BKx4.cell; have hfx4 := BKx4.frozen; have hlx4 := BKx4.lt
  go_wp2_with fail
  go_region_held3 (fun w' => w'.cell? ⟨w.heap.size, 0, none⟩ = some (.slice Aaf_0 f.Tokens.length caf_0) ∧ w'.cell? ⟨w4.heap.size, 0, none⟩ = some (.slice Ax4_0 f.Tokens.length cx4_0))
    (refine ⟨Blk.cell (t := 24) (cs := #[.slice Aaf_0 f.Tokens.length caf_0]) ?_ 0, Blk.cell (t := 29) (cs := #[.slice Ax4_0 f.Tokens.length cx4_0]) ?_ 0⟩ <;> (repeat (first | (with_reducible assumption) | ((with_reducible refine Blk.new' ?_); focus (simp; done)) | (with_reducible refine Blk.alloc ?_ _) | (with_reducible refine Blk.drew ?_) | (with_reducible refine Blk.drewN ?_ _) | ((with_reducible refine Blk.far ?_ ?_ _); rotate_left; focus (first | omega | (simp; done) | (simp; omega))) | (refine Blk.keep ?_ (by with_reducible assumption)) | (refine Blk.below ?_ (by with_reducible assumption) (by (first | omega | (simp; done) | (simp; omega)))))))
    (first
    | (go_at_call 11; refine (to2_Forest _ f _ (ForestR.rd_keep hr_f (by (repeat (first | (with_reducible exact Below.refl _ _) | (with_reducible assumption) | ((with_reducible refine Below.setCell ?_ ?_ _); rotate_left; focus (first | omega | (simp; done) | (simp; omega))) | ((with_reducible refine Below.alloc ?_ ?_ _); rotate_left; focus (first | omega | (simp; done) | (simp; omega))) | (with_reducible refine Below.drew ?_) | (with_reducible refine below_drewN ?_ _) | (refine Below.trans ?_ (Below.mono (by with_reducible assumption) (by (first | omega | (simp; done) | (simp; omega)))))))) (by first | omega | (simp; done) | (simp; omega))) hm_f).mono ?_; rintro e w6 ⟨_, rfl, hoy6, hb6⟩; obtain ⟨vy6_0, _, rfl, py6_0, -⟩ := own_Forest (id hoy6); obtain ⟨Ay6_0, cy6_0, rfl⟩ := py6_0.form; have hz6 := hb6.size; try simp at hz6)
    | (go_at_call 13; refine (eq2_Forest _ _ _ _ _ (ForestR.rd_in (ForestR.own_offS hox4 hsx4 (by (repeat (first | (with_reducible exact Out.refl _ _) | (with_reducible assumption) | ((with_reducible refine Out.setCell ?_ ?_ _); rotate_left; focus (first | (refine Or.inl ?_; (first | omega | (simp; done) | (simp; omega))) | (refine Or.inr ?_; (first | omega | (simp; done) | (simp; omega))))) | (with_reducible refine Out.alloc ?_ _) | (with_reducible refine Out.drew ?_) | (with_reducible refine Out.drewN ?_ _) | (refine Out.step ?_ (by with_reducible assumption)))))) hsx4 (by first | omega | (simp; done) | (simp; omega))) (ForestR.rd_in hoy6 (fun _ h => h) (by first | omega | (simp; done) | (simp; omega))) (by first | omega | (simp; done) | (simp; omega)) (by first | omega | (simp; done) | (simp; omega))).mono ?_; rintro e w7 ⟨rfl, hb7⟩; have hz7 := hb7.size; try simp at hz7))
  replace BKaf : Blk w7 w.heap.size 24 #[.slice Aaf_0 f.Tokens.length caf_0] := by (repeat (first | (with_reducible assumption) | ((with_reducible refine Blk.new' ?_); focus (simp; done)) | (with_reducible refine Blk.alloc ?_ _) | (with_reducible refine Blk.drew ?_) | (with_reducible refine Blk.drewN ?_ _) | ((with_reducible refine Blk.far ?_ ?_ _); rotate_left; focus (first | omega | (simp; done) | (simp; omega))) | (refine Blk.keep ?_ (by with_reducible assumption)) | (refine Blk.below ?_ (by with_reducible assumption) (by (first | omega | (simp; done) | (simp; omega))))))
  replace hcaf := BKaf.cell; replace hfaf := BKaf.frozen; replace hlaf := BKaf.lt
  replace BKx4 : Blk w7 w4.heap.size 29 #[.slice Ax4_0 f.Tokens.length cx4_0] := by (repeat (first | (with_reducible assumption) | ((with_reducible refine Blk.new' ?_); focus (simp; done)) | (with_reducible refine Blk.alloc ?_ _) | (with_reducible refine Blk.drew ?_) | (with_reducible refine Blk.drewN ?_ _) | ((with_reducible refine Blk.far ?_ ?_ _); rotate_left; focus (first | omega | (simp; done) | (simp; omega))) | (refine Blk.keep ?_ (by with_reducible assumption)) | (refine Blk.below ?_ (by with_reducible assumption) (by (first | omega | (simp; done) | (simp; omega))))))
  replace hcx4 := BKx4.cell; replace hfx4 := BKx4.frozen; replace hlx4 := BKx4.lt
  go_wp2
  go_ret
  exact ⟨rfl, by (repeat (first | (with_reducible exact Below.refl _ _) | (with_reducible assumption) | ((with_reducible refine Below.setCell ?_ ?_ _); rotate_left; focus (first | omega | (simp; done) | (simp; omega))) | ((with_reducible refine Below.alloc ?_ ?_ _); rotate_left; focus (first | omega | (simp; done) | (simp; omega))) | (with_reducible refine Below.drew ?_) | (with_reducible refine below_drewN ?_ _) | (refine Below.trans ?_ (Below.mono (by with_reducible assumption) (by (first | omega | (simp; done) | (simp; omega)))))))⟩
end Go.Proofs.Ytlmkimngkdbdhaa

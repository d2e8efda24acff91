/- FnExactLooseRecords: the walk of the law (printed by wip/gen/genlaw2.py). -/
import Derived.Test.YtgaenfkjobkmjaaLoose
import Derived.Deep.DeepCutAuto
set_option linter.unusedSimpArgs false
set_option linter.unusedVariables false
set_option maxRecDepth 20000
namespace Go.Proofs.Ytgaenfkjobkmjaa
open Go.RowKit
set_option maxRecDepth 20000 in
set_option maxHeartbeats 3200000 in
theorem law_FnExactLooseRecords (cs_d : List Value) (d : Disk) (w : World) (hr_d : DiskR.Rd w w.heap.size cs_d d) :
    Calls Try.prog 4 #[.agg cs_d.toArray] w fun e w' => e = .returned (.bool true) ∧ Below w.heap.size w w' := by
  obtain ⟨vad_0, vad_1, rfl, pad_0, pad_1⟩ := rd_Disk (id hr_d)
  obtain ⟨Aad_0, cad_0, rfl⟩ := pad_0.form
  obtain ⟨Aad_1, cad_1, rfl⟩ := pad_1.form
  go_enter Try.func4, Try.ntmps4
  go_wp2_with fail
  refine (sz2_Disk _ d _ _ (DiskR.rd_keep hr_d (by (repeat (first | (with_reducible exact Below.refl _ _) | (with_reducible assumption) | ((with_reducible refine Below.setCell ?_ ?_ _); rotate_left; focus (first | omega | (simp; done) | (simp; omega))) | ((with_reducible refine Below.alloc ?_ ?_ _); rotate_left; focus (first | omega | (simp; done) | (simp; omega))) | (with_reducible refine Below.drew ?_) | (with_reducible refine below_drewN ?_ _) | (refine Below.trans ?_ (Below.mono (by with_reducible assumption) (by (first | omega | (simp; done) | (simp; omega)))))))) (by first | omega | (simp; done) | (simp; omega))) (by first | omega | (simp; done) | (simp; omega)) (by first | omega | (simp; done) | (simp; omega))).mono ?_
  rintro e w1 ⟨rfl, hb1⟩
  have hz1 := hb1.size; try simp at hz1
  have BKad : Blk w1 w.heap.size 41 #[.slice Aad_0 d.Safe.length cad_0, .slice Aad_1 d.Loose.length cad_1] := by (repeat (first | (with_reducible assumption) | ((with_reducible refine Blk.new' ?_); focus (simp; done)) | (with_reducible refine Blk.alloc ?_ _) | (with_reducible refine Blk.drew ?_) | (with_reducible refine Blk.drewN ?_ _) | ((with_reducible refine Blk.far ?_ ?_ _); rotate_left; focus (first | omega | (simp; done) | (simp; omega))) | (refine Blk.keep ?_ (by with_reducible assumption)) | (refine Blk.below ?_ (by with_reducible assumption) (by (first | omega | (simp; done) | (simp; omega))))))
  have hcad := BKad.cell; have hfad := BKad.frozen; have hlad := BKad.lt
  by_cases hs_d : (leftOf 1048576 (DiskR.sz d)) < 0
  · go_wp2
    go_ret
    exact ⟨rfl, by (repeat (first | (with_reducible exact Below.refl _ _) | (with_reducible assumption) | ((with_reducible refine Below.setCell ?_ ?_ _); rotate_left; focus (first | omega | (simp; done) | (simp; omega))) | ((with_reducible refine Below.alloc ?_ ?_ _); rotate_left; focus (first | omega | (simp; done) | (simp; omega))) | (with_reducible refine Below.drew ?_) | (with_reducible refine below_drewN ?_ _) | (refine Below.trans ?_ (Below.mono (by with_reducible assumption) (by (first | omega | (simp; done) | (simp; omega)))))))⟩
  have hm_d : DiskR.sz d ≤ 1048576 := by have h1 := leftOf_le (Int.not_lt.1 hs_d); omega
  go_wp2_with fail
  refine (to2_Disk _ d _ (DiskR.rd_keep hr_d (by (repeat (first | (with_reducible exact Below.refl _ _) | (with_reducible assumption) | ((with_reducible refine Below.setCell ?_ ?_ _); rotate_left; focus (first | omega | (simp; done) | (simp; omega))) | ((with_reducible refine Below.alloc ?_ ?_ _); rotate_left; focus (first | omega | (simp; done) | (simp; omega))) | (with_reducible refine Below.drew ?_) | (with_reducible refine below_drewN ?_ _) | (refine Below.trans ?_ (Below.mono (by with_reducible assumption) (by (first | omega | (simp; done) | (simp; omega)))))))) (by first | omega | (simp; done) | (simp; omega))) hm_d).mono ?_
  rintro e w2 ⟨_, rfl, hos2, hb2⟩
  obtain ⟨vs2_0, vs2_1, _, _, rfl, ps2_0, ps2_1, -⟩ := own_Disk (id hos2)
  obtain ⟨As2_0, cs2_0, rfl⟩ := ps2_0.form
  obtain ⟨As2_1, cs2_1, rfl⟩ := ps2_1.form
  have hz2 := hb2.size; try simp at hz2
  replace hos2 := DiskR.own_wide hos2 (inR_mono (lo' := w1.heap.size) (hi' := w2.heap.size) (by first | omega | (simp; done) | (simp; omega)) (by first | omega | (simp; done) | (simp; omega)))
  have hss2 : ∀ g, InR (w1.heap.size) (w2.heap.size) g → InR (w1.heap.size) (w2.heap.size) g := fun _ h => h
  replace BKad : Blk w2 w.heap.size 41 #[.slice Aad_0 d.Safe.length cad_0, .slice Aad_1 d.Loose.length cad_1] := by (repeat (first | (with_reducible assumption) | ((with_reducible refine Blk.new' ?_); focus (simp; done)) | (with_reducible refine Blk.alloc ?_ _) | (with_reducible refine Blk.drew ?_) | (with_reducible refine Blk.drewN ?_ _) | ((with_reducible refine Blk.far ?_ ?_ _); rotate_left; focus (first | omega | (simp; done) | (simp; omega))) | (refine Blk.keep ?_ (by with_reducible assumption)) | (refine Blk.below ?_ (by with_reducible assumption) (by (first | omega | (simp; done) | (simp; omega))))))
  replace hcad := BKad.cell; replace hfad := BKad.frozen; replace hlad := BKad.lt
  go_wp2_with fail
  refine (spec_LooseRecordsL _ d _ (DiskR.rd_in (DiskR.own_offS hos2 hss2 (by (repeat (first | (with_reducible exact Out.refl _ _) | (with_reducible assumption) | ((with_reducible refine Out.setCell ?_ ?_ _); rotate_left; focus (first | (refine Or.inl ?_; (first | omega | (simp; done) | (simp; omega))) | (refine Or.inr ?_; (first | omega | (simp; done) | (simp; omega))))) | (with_reducible refine Out.alloc ?_ _) | (with_reducible refine Out.drew ?_) | (with_reducible refine Out.drewN ?_ _) | (refine Out.step ?_ (by with_reducible assumption)))))) hss2 (by first | omega | (simp; done) | (simp; omega))) hm_d).mono ?_
  rintro e w3 ⟨rfl, hb3⟩
  have hz3 := hb3.size; try simp at hz3
  replace BKad : Blk w3 w.heap.size 41 #[.slice Aad_0 d.Safe.length cad_0, .slice Aad_1 d.Loose.length cad_1] := by (repeat (first | (with_reducible assumption) | ((with_reducible refine Blk.new' ?_); focus (simp; done)) | (with_reducible refine Blk.alloc ?_ _) | (with_reducible refine Blk.drew ?_) | (with_reducible refine Blk.drewN ?_ _) | ((with_reducible refine Blk.far ?_ ?_ _); rotate_left; focus (first | omega | (simp; done) | (simp; omega))) | (refine Blk.keep ?_ (by with_reducible assumption)) | (refine Blk.below ?_ (by with_reducible assumption) (by (first | omega | (simp; done) | (simp; omega))))))
  replace hcad := BKad.cell; replace hfad := BKad.frozen; replace hlad := BKad.lt
  go_wp2_with fail
  refine (to2_Disk _ d _ (DiskR.rd_keep hr_d (by (repeat (first | (with_reducible exact Below.refl _ _) | (with_reducible assumption) | ((with_reducible refine Below.setCell ?_ ?_ _); rotate_left; focus (first | omega | (simp; done) | (simp; omega))) | ((with_reducible refine Below.alloc ?_ ?_ _); rotate_left; focus (first | omega | (simp; done) | (simp; omega))) | (with_reducible refine Below.drew ?_) | (with_reducible refine below_drewN ?_ _) | (refine Below.trans ?_ (Below.mono (by with_reducible assumption) (by (first | omega | (simp; done) | (simp; omega)))))))) (by first | omega | (simp; done) | (simp; omega))) hm_d).mono ?_
  rintro e w4 ⟨_, rfl, hox4, hb4⟩
  obtain ⟨vx4_0, vx4_1, _, _, rfl, px4_0, px4_1, -⟩ := own_Disk (id hox4)
  obtain ⟨Ax4_0, cx4_0, rfl⟩ := px4_0.form
  obtain ⟨Ax4_1, cx4_1, rfl⟩ := px4_1.form
  have hz4 := hb4.size; try simp at hz4
  replace hox4 := DiskR.own_wide hox4 (inR_mono (lo' := w3.heap.size) (hi' := w4.heap.size) (by first | omega | (simp; done) | (simp; omega)) (by first | omega | (simp; done) | (simp; omega)))
  have hsx4 : ∀ g, InR (w3.heap.size) (w4.heap.size) g → InR (w3.heap.size) (w4.heap.size) g := fun _ h => h
  replace BKad : Blk w4 w.heap.size 41 #[.slice Aad_0 d.Safe.length cad_0, .slice Aad_1 d.Loose.length cad_1] := by (repeat (first | (with_reducible assumption) | ((with_reducible refine Blk.new' ?_); focus (simp; done)) | (with_reducible refine Blk.alloc ?_ _) | (with_reducible refine Blk.drew ?_) | (with_reducible refine Blk.drewN ?_ _) | ((with_reducible refine Blk.far ?_ ?_ _); rotate_left; focus (first | omega | (simp; done) | (simp; omega))) | (refine Blk.keep ?_ (by with_reducible assumption)) | (refine Blk.below ?_ (by with_reducible assumption) (by (first | omega | (simp; done) | (simp; omega))))))
  replace hcad := BKad.cell; replace hfad := BKad.frozen; replace hlad := BKad.lt
  go_wp2_with fail
  refine (impl_LooseRecordsL _ d _ (DiskR.rd_in (DiskR.own_offS hox4 hsx4 (by (repeat (first | (with_reducible exact Out.refl _ _) | (with_reducible assumption) | ((with_reducible refine Out.setCell ?_ ?_ _); rotate_left; focus (first | (refine Or.inl ?_; (first | omega | (simp; done) | (simp; omega))) | (refine Or.inr ?_; (first | omega | (simp; done) | (simp; omega))))) | (with_reducible refine Out.alloc ?_ _) | (with_reducible refine Out.drew ?_) | (with_reducible refine Out.drewN ?_ _) | (refine Out.step ?_ (by with_reducible assumption)))))) hsx4 (by first | omega | (simp; done) | (simp; omega))) hm_d).mono ?_
  rintro e w5 ⟨rfl, hb5⟩
  have hz5 := hb5.size; try simp at hz5
  replace BKad : Blk w5 w.heap.size 41 #[.slice Aad_0 d.Safe.length cad_0, .slice Aad_1 d.Loose.length cad_1] := by (repeat (first | (with_reducible assumption) | ((with_reducible refine Blk.new' ?_); focus (simp; done)) | (with_reducible refine Blk.alloc ?_ _) | (with_reducible refine Blk.drew ?_) | (with_reducible refine Blk.drewN ?_ _) | ((with_reducible refine Blk.far ?_ ?_ _); rotate_left; focus (first | omega | (simp; done) | (simp; omega))) | (refine Blk.keep ?_ (by with_reducible assumption)) | (refine Blk.below ?_ (by with_reducible assumption) (by (first | omega | (simp; done) | (simp; omega))))))
  replace hcad := BKad.cell; replace hfad := BKad.frozen; replace hlad := BKad.lt
  have BKx4 : Blk w5 w4.heap.size 44 #[.slice Ax4_0 d.Safe.length cx4_0, .slice Ax4_1 d.Loose.length cx4_1] := by (repeat (first | (with_reducible assumption) | ((with_reducible refine Blk.new' ?_); focus (simp; done)) | (with_reducible refine Blk.alloc ?_ _) | (with_reducible refine Blk.drew ?_) | (with_reducible refine Blk.drewN ?_ _) | ((with_reducible refine Blk.far ?_ ?_ _); rotate_left; focus (first | omega | (simp; done) | (simp; omega))) | (refine Blk.keep ?_ (by with_reducible assumption)) | (refine Blk.below ?_ (by with_reducible assumption) (by (first | omega | (simp; done) | (simp; omega))))))
  have hcx4 := BKx4.cell; have hfx4 := BKx4.frozen; have hlx4 := BKx4.lt
  go_wp2_with fail
  go_region_held3 (fun w' => w'.cell? ⟨w.heap.size, 0, none⟩ = some (.slice Aad_0 d.Safe.length cad_0) ∧ w'.cell? ⟨w.heap.size, 1, none⟩ = some (.slice Aad_1 d.Loose.length cad_1) ∧ w'.cell? ⟨w4.heap.size, 0, none⟩ = some (.slice Ax4_0 d.Safe.length cx4_0) ∧ w'.cell? ⟨w4.heap.size, 1, none⟩ = some (.slice Ax4_1 d.Loose.length cx4_1))
    (refine ⟨Blk.cell (t := 41) (cs := #[.slice Aad_0 d.Safe.length cad_0, .slice Aad_1 d.Loose.length cad_1]) ?_ 0, Blk.cell (t := 41) (cs := #[.slice Aad_0 d.Safe.length cad_0, .slice Aad_1 d.Loose.length cad_1]) ?_ 1, Blk.cell (t := 44) (cs := #[.slice Ax4_0 d.Safe.length cx4_0, .slice Ax4_1 d.Loose.length cx4_1]) ?_ 0, Blk.cell (t := 44) (cs := #[.slice Ax4_0 d.Safe.length cx4_0, .slice Ax4_1 d.Loose.length cx4_1]) ?_ 1⟩ <;> (repeat (first | (with_reducible assumption) | ((with_reducible refine Blk.new' ?_); focus (simp; done)) | (with_reducible refine Blk.alloc ?_ _) | (with_reducible refine Blk.drew ?_) | (with_reducible refine Blk.drewN ?_ _) | ((with_reducible refine Blk.far ?_ ?_ _); rotate_left; focus (first | omega | (simp; done) | (simp; omega))) | (refine Blk.keep ?_ (by with_reducible assumption)) | (refine Blk.below ?_ (by with_reducible assumption) (by (first | omega | (simp; done) | (simp; omega)))))))
    (first
    | (go_at_call 22; refine (to2_Disk _ d _ (DiskR.rd_keep hr_d (by (repeat (first | (with_reducible exact Below.refl _ _) | (with_reducible assumption) | ((with_reducible refine Below.setCell ?_ ?_ _); rotate_left; focus (first | omega | (simp; done) | (simp; omega))) | ((with_reducible refine Below.alloc ?_ ?_ _); rotate_left; focus (first | omega | (simp; done) | (simp; omega))) | (with_reducible refine Below.drew ?_) | (with_reducible refine below_drewN ?_ _) | (refine Below.trans ?_ (Below.mono (by with_reducible assumption) (by (first | omega | (simp; done) | (simp; omega)))))))) (by first | omega | (simp; done) | (simp; omega))) hm_d).mono ?_; rintro e w6 ⟨_, rfl, hoy6, hb6⟩; obtain ⟨vy6_0, vy6_1, _, _, rfl, py6_0, py6_1, -⟩ := own_Disk (id hoy6); obtain ⟨Ay6_0, cy6_0, rfl⟩ := py6_0.form; obtain ⟨Ay6_1, cy6_1, rfl⟩ := py6_1.form; have hz6 := hb6.size; try simp at hz6)
    | (go_at_call 24; refine (eq2_Disk _ _ _ _ _ (DiskR.rd_in (DiskR.own_offS hox4 hsx4 (by (repeat (first | (with_reducible exact Out.refl _ _) | (with_reducible assumption) | ((with_reducible refine Out.setCell ?_ ?_ _); rotate_left; focus (first | (refine Or.inl ?_; (first | omega | (simp; done) | (simp; omega))) | (refine Or.inr ?_; (first | omega | (simp; done) | (simp; omega))))) | (with_reducible refine Out.alloc ?_ _) | (with_reducible refine Out.drew ?_) | (with_reducible refine Out.drewN ?_ _) | (refine Out.step ?_ (by with_reducible assumption)))))) hsx4 (by first | omega | (simp; done) | (simp; omega))) (DiskR.rd_in hoy6 (fun _ h => h) (by first | omega | (simp; done) | (simp; omega))) (by first | omega | (simp; done) | (simp; omega)) (by first | omega | (simp; done) | (simp; omega))).mono ?_; rintro e w7 ⟨rfl, hb7⟩; have hz7 := hb7.size; try simp at hz7))
  replace BKad : Blk w7 w.heap.size 41 #[.slice Aad_0 d.Safe.length cad_0, .slice Aad_1 d.Loose.length cad_1] := by (repeat (first | (with_reducible assumption) | ((with_reducible refine Blk.new' ?_); focus (simp; done)) | (with_reducible refine Blk.alloc ?_ _) | (with_reducible refine Blk.drew ?_) | (with_reducible refine Blk.drewN ?_ _) | ((with_reducible refine Blk.far ?_ ?_ _); rotate_left; focus (first | omega | (simp; done) | (simp; omega))) | (refine Blk.keep ?_ (by with_reducible assumption)) | (refine Blk.below ?_ (by with_reducible assumption) (by (first | omega | (simp; done) | (simp; omega))))))
  replace hcad := BKad.cell; replace hfad := BKad.frozen; replace hlad := BKad.lt
  replace BKx4 : Blk w7 w4.heap.size 44 #[.slice Ax4_0 d.Safe.length cx4_0, .slice Ax4_1 d.Loose.length cx4_1] := by (repeat (first | (with_reducible assumption) | ((with_reducible refine Blk.new' ?_); focus (simp; done)) | (with_reducible refine Blk.alloc ?_ _) | (with_reducible refine Blk.drew ?_) | (with_reducible refine Blk.drewN ?_ _) | ((with_reducible refine Blk.far ?_ ?_ _); rotate_left; focus (first | omega | (simp; done) | (simp; omega))) | (refine Blk.keep ?_ (by with_reducible assumption)) | (refine Blk.below ?_ (by with_reducible assumption) (by (first | omega | (simp; done) | (simp; omega))))))
  replace hcx4 := BKx4.cell; replace hfx4 := BKx4.frozen; replace hlx4 := BKx4.lt
  go_wp2
  go_ret
  exact ⟨rfl, by (repeat (first | (with_reducible exact Below.refl _ _) | (with_reducible assumption) | ((with_reducible refine Below.setCell ?_ ?_ _); rotate_left; focus (first | omega | (simp; done) | (simp; omega))) | ((with_reducible refine Below.alloc ?_ ?_ _); rotate_left; focus (first | omega | (simp; done) | (simp; omega))) | (with_reducible refine Below.drew ?_) | (with_reducible refine below_drewN ?_ _) | (refine Below.trans ?_ (Below.mono (by with_reducible assumption) (by (first | omega | (simp; done) | (simp; omega)))))))⟩
end Go.Proofs.Ytgaenfkjobkmjaa

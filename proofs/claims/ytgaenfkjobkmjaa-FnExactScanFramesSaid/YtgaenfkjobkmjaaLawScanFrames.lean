/- FnExactScanFrames: the walk of the law (printed by wip/gen/genlaw2.py). -/
import Derived.Test.YtgaenfkjobkmjaaScanL
import Derived.Deep.DeepCutAuto
set_option linter.unusedSimpArgs false
set_option linter.unusedVariables false
set_option maxRecDepth 20000
namespace Go.Proofs.Ytgaenfkjobkmjaa
open Go.RowKit
set_option maxRecDepth 20000 in
set_option maxHeartbeats 3200000 in
theorem law_FnExactScanFrames (v_b : Value) (b : List UInt8) (w : World) (hr_b : SlRd byteR w w.heap.size v_b b) :
    Calls Try.prog 5 #[v_b] w fun e w' => e = .returned (.bool true) ∧ Below w.heap.size w w' := by
  obtain ⟨Aab_0, cab_0, rfl⟩ := SlRd.form hr_b
  obtain ⟨_, q1_b, q2_b, q3_b⟩ := rd_ByteS hr_b
  have hm0_b : b.length ≤ 9223372036854775807 := by omega
  by_cases hs_b : 1048576 < b.length
  · go_enter Try.func5, Try.ntmps5
    go_wp2
    go_ret
    exact ⟨rfl, by (repeat (first | (with_reducible exact Below.refl _ _) | (with_reducible assumption) | ((with_reducible refine Below.setCell ?_ ?_ _); rotate_left; focus (first | omega | (simp; done) | (simp; omega))) | ((with_reducible refine Below.alloc ?_ ?_ _); rotate_left; focus (first | omega | (simp; done) | (simp; omega))) | (with_reducible refine Below.drew ?_) | (with_reducible refine below_drewN ?_ _) | (refine Below.trans ?_ (Below.mono (by with_reducible assumption) (by (first | omega | (simp; done) | (simp; omega)))))))⟩
  have hm_b : szList byteR b ≤ 1048576 := by rw [sz_ByteS]; omega
  clear hm0_b
  go_enter Try.func5, Try.ntmps5
  obtain ⟨r0, hr0⟩ : ∃ z_, z_ = (scanF b).1 := ⟨_, rfl⟩
  have hbd0 : szList RecordR r0 ≤ 2097152 := by rw [hr0]; exact (Nat.le_trans (scanF_sz b) (by rw [sz_ByteS] at hm_b; omega))
  have HR0 := Lib.hid hr0.symm
  clear hr0
  go_wp2_with fail
  refine (to2_ByteS _ b _ (SlRd.keep hr_b (by (repeat (first | (with_reducible exact Below.refl _ _) | (with_reducible assumption) | ((with_reducible refine Below.setCell ?_ ?_ _); rotate_left; focus (first | omega | (simp; done) | (simp; omega))) | ((with_reducible refine Below.alloc ?_ ?_ _); rotate_left; focus (first | omega | (simp; done) | (simp; omega))) | (with_reducible refine Below.drew ?_) | (with_reducible refine below_drewN ?_ _) | (refine Below.trans ?_ (Below.mono (by with_reducible assumption) (by (first | omega | (simp; done) | (simp; omega)))))))) (by first | omega | (simp; done) | (simp; omega))) hm_b).mono ?_
  rintro e w1 ⟨_, rfl, hos1, hb1⟩
  obtain ⟨As1_0, cs1_0, rfl⟩ := SlOwn.form (id hos1)
  have hz1 := hb1.size; try simp at hz1
  replace hos1 := SlOwn.wide hos1 (inR_mono (lo' := w.heap.size) (hi' := w1.heap.size) (by first | omega | (simp; done) | (simp; omega)) (by first | omega | (simp; done) | (simp; omega)))
  have hss1 : ∀ g, InR (w.heap.size) (w1.heap.size) g → InR (w.heap.size) (w1.heap.size) g := fun _ h => h
  go_wp2_with fail
  refine (spec_ScanFramesL _ b _ (SlOwn.rd_in (SlOwn.offS hos1 hss1 (by (repeat (first | (with_reducible exact Out.refl _ _) | (with_reducible assumption) | ((with_reducible refine Out.setCell ?_ ?_ _); rotate_left; focus (first | (refine Or.inl ?_; (first | omega | (simp; done) | (simp; omega))) | (refine Or.inr ?_; (first | omega | (simp; done) | (simp; omega))))) | (with_reducible refine Out.alloc ?_ _) | (with_reducible refine Out.drew ?_) | (with_reducible refine Out.drewN ?_ _) | (refine Out.step ?_ (by with_reducible assumption)))))) hss1 (by first | omega | (simp; done) | (simp; omega))) hm_b).mono ?_
  rintro e w2 ⟨_, rfl, how2, hb2⟩
  rw [HR0.out] at how2
  obtain ⟨Aw2_0, cw2_0, rfl⟩ := SlOwn.form (id how2)
  have hz2 := hb2.size; try simp at hz2
  replace how2 := SlOwn.wide how2 (inR_mono (lo' := w1.heap.size) (hi' := w2.heap.size) (by first | omega | (simp; done) | (simp; omega)) (by first | omega | (simp; done) | (simp; omega)))
  have hsw2 : ∀ g, InR (w1.heap.size) (w2.heap.size) g → InR (w1.heap.size) (w2.heap.size) g := fun _ h => h
  go_wp2_with fail
  refine (to2_ByteS _ b _ (SlRd.keep hr_b (by (repeat (first | (with_reducible exact Below.refl _ _) | (with_reducible assumption) | ((with_reducible refine Below.setCell ?_ ?_ _); rotate_left; focus (first | omega | (simp; done) | (simp; omega))) | ((with_reducible refine Below.alloc ?_ ?_ _); rotate_left; focus (first | omega | (simp; done) | (simp; omega))) | (with_reducible refine Below.drew ?_) | (with_reducible refine below_drewN ?_ _) | (refine Below.trans ?_ (Below.mono (by with_reducible assumption) (by (first | omega | (simp; done) | (simp; omega)))))))) (by first | omega | (simp; done) | (simp; omega))) hm_b).mono ?_
  rintro e w3 ⟨_, rfl, hox3, hb3⟩
  obtain ⟨Ax3_0, cx3_0, rfl⟩ := SlOwn.form (id hox3)
  have hz3 := hb3.size; try simp at hz3
  replace hox3 := SlOwn.wide hox3 (inR_mono (lo' := w2.heap.size) (hi' := w3.heap.size) (by first | omega | (simp; done) | (simp; omega)) (by first | omega | (simp; done) | (simp; omega)))
  have hsx3 : ∀ g, InR (w2.heap.size) (w3.heap.size) g → InR (w2.heap.size) (w3.heap.size) g := fun _ h => h
  go_wp2_with fail
  refine (impl_ScanFramesL _ b _ (SlOwn.rd_in (SlOwn.offS hox3 hsx3 (by (repeat (first | (with_reducible exact Out.refl _ _) | (with_reducible assumption) | ((with_reducible refine Out.setCell ?_ ?_ _); rotate_left; focus (first | (refine Or.inl ?_; (first | omega | (simp; done) | (simp; omega))) | (refine Or.inr ?_; (first | omega | (simp; done) | (simp; omega))))) | (with_reducible refine Out.alloc ?_ _) | (with_reducible refine Out.drew ?_) | (with_reducible refine Out.drewN ?_ _) | (refine Out.step ?_ (by with_reducible assumption)))))) hsx3 (by first | omega | (simp; done) | (simp; omega))) hm_b).mono ?_
  rintro e w4 ⟨_, rfl, hog4, hb4⟩
  rw [HR0.out] at hog4
  obtain ⟨Ag4_0, cg4_0, rfl⟩ := SlOwn.form (id hog4)
  have hz4 := hb4.size; try simp at hz4
  replace hog4 := SlOwn.wide hog4 (inR_mono (lo' := w3.heap.size) (hi' := w4.heap.size) (by first | omega | (simp; done) | (simp; omega)) (by first | omega | (simp; done) | (simp; omega)))
  have hsg4 : ∀ g, InR (w3.heap.size) (w4.heap.size) g → InR (w3.heap.size) (w4.heap.size) g := fun _ h => h
  go_wp2_with fail
  refine (eq2_RecordS _ _ _ _ _ (SlOwn.rd_in (SlOwn.offS hog4 hsg4 (by (repeat (first | (with_reducible exact Out.refl _ _) | (with_reducible assumption) | ((with_reducible refine Out.setCell ?_ ?_ _); rotate_left; focus (first | (refine Or.inl ?_; (first | omega | (simp; done) | (simp; omega))) | (refine Or.inr ?_; (first | omega | (simp; done) | (simp; omega))))) | (with_reducible refine Out.alloc ?_ _) | (with_reducible refine Out.drew ?_) | (with_reducible refine Out.drewN ?_ _) | (refine Out.step ?_ (by with_reducible assumption)))))) hsg4 (by first | omega | (simp; done) | (simp; omega))) (SlOwn.rd_in (SlOwn.offS how2 hsw2 (by (repeat (first | (with_reducible exact Out.refl _ _) | (with_reducible assumption) | ((with_reducible refine Out.setCell ?_ ?_ _); rotate_left; focus (first | (refine Or.inl ?_; (first | omega | (simp; done) | (simp; omega))) | (refine Or.inr ?_; (first | omega | (simp; done) | (simp; omega))))) | (with_reducible refine Out.alloc ?_ _) | (with_reducible refine Out.drew ?_) | (with_reducible refine Out.drewN ?_ _) | (refine Out.step ?_ (by with_reducible assumption)))))) hsw2 (by first | omega | (simp; done) | (simp; omega))) (by first | omega | (simp; done) | (simp; omega)) (by first | omega | (simp; done) | (simp; omega))).mono ?_
  rintro e w5 ⟨rfl, hb5⟩
  have hz5 := hb5.size; try simp at hz5
  go_wp2_with fail
  refine (to2_ByteS _ b _ (SlRd.keep hr_b (by (repeat (first | (with_reducible exact Below.refl _ _) | (with_reducible assumption) | ((with_reducible refine Below.setCell ?_ ?_ _); rotate_left; focus (first | omega | (simp; done) | (simp; omega))) | ((with_reducible refine Below.alloc ?_ ?_ _); rotate_left; focus (first | omega | (simp; done) | (simp; omega))) | (with_reducible refine Below.drew ?_) | (with_reducible refine below_drewN ?_ _) | (refine Below.trans ?_ (Below.mono (by with_reducible assumption) (by (first | omega | (simp; done) | (simp; omega)))))))) (by first | omega | (simp; done) | (simp; omega))) hm_b).mono ?_
  rintro e w6 ⟨_, rfl, hoy6, hb6⟩
  obtain ⟨Ay6_0, cy6_0, rfl⟩ := SlOwn.form (id hoy6)
  have hz6 := hb6.size; try simp at hz6
  replace hoy6 := SlOwn.wide hoy6 (inR_mono (lo' := w5.heap.size) (hi' := w6.heap.size) (by first | omega | (simp; done) | (simp; omega)) (by first | omega | (simp; done) | (simp; omega)))
  have hsy6 : ∀ g, InR (w5.heap.size) (w6.heap.size) g → InR (w5.heap.size) (w6.heap.size) g := fun _ h => h
  go_wp2_with fail
  refine (eq2_ByteS _ _ _ _ _ (SlOwn.rd_in (SlOwn.offS hox3 hsx3 (by (repeat (first | (with_reducible exact Out.refl _ _) | (with_reducible assumption) | ((with_reducible refine Out.setCell ?_ ?_ _); rotate_left; focus (first | (refine Or.inl ?_; (first | omega | (simp; done) | (simp; omega))) | (refine Or.inr ?_; (first | omega | (simp; done) | (simp; omega))))) | (with_reducible refine Out.alloc ?_ _) | (with_reducible refine Out.drew ?_) | (with_reducible refine Out.drewN ?_ _) | (refine Out.step ?_ (by with_reducible assumption)))))) hsx3 (by first | omega | (simp; done) | (simp; omega))) (SlOwn.rd_in (SlOwn.offS hoy6 hsy6 (by (repeat (first | (with_reducible exact Out.refl _ _) | (with_reducible assumption) | ((with_reducible refine Out.setCell ?_ ?_ _); rotate_left; focus (first | (refine Or.inl ?_; (first | omega | (simp; done) | (simp; omega))) | (refine Or.inr ?_; (first | omega | (simp; done) | (simp; omega))))) | (with_reducible refine Out.alloc ?_ _) | (with_reducible refine Out.drew ?_) | (with_reducible refine Out.drewN ?_ _) | (refine Out.step ?_ (by with_reducible assumption)))))) hsy6 (by first | omega | (simp; done) | (simp; omega))) (by first | omega | (simp; done) | (simp; omega)) (by first | omega | (simp; done) | (simp; omega))).mono ?_
  rintro e w7 ⟨rfl, hb7⟩
  have hz7 := hb7.size; try simp at hz7
  replace hox3 : SlOwn byteR 5 w7 (InR (w2.heap.size) (w3.heap.size)) (.slice Ax3_0 b.length cx3_0) b := (SlOwn.offS hox3 hsx3 (by (repeat (first | (with_reducible exact Out.refl _ _) | (with_reducible assumption) | ((with_reducible refine Out.setCell ?_ ?_ _); rotate_left; focus (first | (refine Or.inl ?_; (first | omega | (simp; done) | (simp; omega))) | (refine Or.inr ?_; (first | omega | (simp; done) | (simp; omega))))) | (with_reducible refine Out.alloc ?_ _) | (with_reducible refine Out.drew ?_) | (with_reducible refine Out.drewN ?_ _) | (refine Out.step ?_ (by with_reducible assumption))))))
  replace hog4 : SlOwn RecordR 27 w7 (InR (w3.heap.size) (w4.heap.size)) (.slice Ag4_0 r0.length cg4_0) r0 := (SlOwn.offS hog4 hsg4 (by (repeat (first | (with_reducible exact Out.refl _ _) | (with_reducible assumption) | ((with_reducible refine Out.setCell ?_ ?_ _); rotate_left; focus (first | (refine Or.inl ?_; (first | omega | (simp; done) | (simp; omega))) | (refine Or.inr ?_; (first | omega | (simp; done) | (simp; omega))))) | (with_reducible refine Out.alloc ?_ _) | (with_reducible refine Out.drew ?_) | (with_reducible refine Out.drewN ?_ _) | (refine Out.step ?_ (by with_reducible assumption))))))
  replace how2 : SlOwn RecordR 27 w7 (InR (w1.heap.size) (w2.heap.size)) (.slice Aw2_0 r0.length cw2_0) r0 := (SlOwn.offS how2 hsw2 (by (repeat (first | (with_reducible exact Out.refl _ _) | (with_reducible assumption) | ((with_reducible refine Out.setCell ?_ ?_ _); rotate_left; focus (first | (refine Or.inl ?_; (first | omega | (simp; done) | (simp; omega))) | (refine Or.inr ?_; (first | omega | (simp; done) | (simp; omega))))) | (with_reducible refine Out.alloc ?_ _) | (with_reducible refine Out.drew ?_) | (with_reducible refine Out.drewN ?_ _) | (refine Out.step ?_ (by with_reducible assumption))))))
  have hctb := cnt_bd_ByteS b
  go_wp2_with fail
  refine (Calls.cast (by first | rfl | (push_cast; rfl)) (mark2_ByteS _ _ _ (1) _ hox3 (Nat.le_trans (Nat.le_trans (Nat.le_add_right _ _) hm_b) (by omega))  (by omega))).mono ?_
  rintro e w8 ⟨rfl, hkx3, hO8⟩
  have hz8 := hO8.size
  have hb8 : Below w.heap.size w7 w8 := hO8.below (by omega) (fun q hq => by have h1 := (hsx3 q hq).1; omega)
  replace hog4 := SlOwn.out hog4 hO8 (fun g hg hg' => inR_apart (by first | (left; omega) | (right; omega)) g (hsg4 g hg) (hsx3 g hg'))
  replace how2 := SlOwn.out how2 hO8 (fun g hg hg' => inR_apart (by first | (left; omega) | (right; omega)) g (hsw2 g hg) (hsx3 g hg'))
  have hposk : (0 : Int) ≤ ((1 + cntList byteR b : Nat) : Int) := by omega
  push_cast at hposk
  go_wp2_with fail
  refine (eq2_RecordS _ _ _ _ _ (SlOwn.rd_in (SlOwn.offS hog4 hsg4 (by (repeat (first | (with_reducible exact Out.refl _ _) | (with_reducible assumption) | ((with_reducible refine Out.setCell ?_ ?_ _); rotate_left; focus (first | (refine Or.inl ?_; (first | omega | (simp; done) | (simp; omega))) | (refine Or.inr ?_; (first | omega | (simp; done) | (simp; omega))))) | (with_reducible refine Out.alloc ?_ _) | (with_reducible refine Out.drew ?_) | (with_reducible refine Out.drewN ?_ _) | (refine Out.step ?_ (by with_reducible assumption)))))) hsg4 (by first | omega | (simp; done) | (simp; omega))) (SlOwn.rd_in (SlOwn.offS how2 hsw2 (by (repeat (first | (with_reducible exact Out.refl _ _) | (with_reducible assumption) | ((with_reducible refine Out.setCell ?_ ?_ _); rotate_left; focus (first | (refine Or.inl ?_; (first | omega | (simp; done) | (simp; omega))) | (refine Or.inr ?_; (first | omega | (simp; done) | (simp; omega))))) | (with_reducible refine Out.alloc ?_ _) | (with_reducible refine Out.drew ?_) | (with_reducible refine Out.drewN ?_ _) | (refine Out.step ?_ (by with_reducible assumption)))))) hsw2 (by first | omega | (simp; done) | (simp; omega))) (by first | omega | (simp; done) | (simp; omega)) (by first | omega | (simp; done) | (simp; omega))).mono ?_
  rintro e w9 ⟨rfl, hb9⟩
  have hz9 := hb9.size; try simp at hz9
  replace hog4 : SlOwn RecordR 27 w9 (InR (w3.heap.size) (w4.heap.size)) (.slice Ag4_0 r0.length cg4_0) r0 := (SlOwn.offS hog4 hsg4 (by (repeat (first | (with_reducible exact Out.refl _ _) | (with_reducible assumption) | ((with_reducible refine Out.setCell ?_ ?_ _); rotate_left; focus (first | (refine Or.inl ?_; (first | omega | (simp; done) | (simp; omega))) | (refine Or.inr ?_; (first | omega | (simp; done) | (simp; omega))))) | (with_reducible refine Out.alloc ?_ _) | (with_reducible refine Out.drew ?_) | (with_reducible refine Out.drewN ?_ _) | (refine Out.step ?_ (by with_reducible assumption))))))
  replace how2 : SlOwn RecordR 27 w9 (InR (w1.heap.size) (w2.heap.size)) (.slice Aw2_0 r0.length cw2_0) r0 := (SlOwn.offS how2 hsw2 (by (repeat (first | (with_reducible exact Out.refl _ _) | (with_reducible assumption) | ((with_reducible refine Out.setCell ?_ ?_ _); rotate_left; focus (first | (refine Or.inl ?_; (first | omega | (simp; done) | (simp; omega))) | (refine Or.inr ?_; (first | omega | (simp; done) | (simp; omega))))) | (with_reducible refine Out.alloc ?_ _) | (with_reducible refine Out.drew ?_) | (with_reducible refine Out.drewN ?_ _) | (refine Out.step ?_ (by with_reducible assumption))))))
  have hcr0 := cnt_bd_RecordS r0
  go_wp2_with fail
  refine (Calls.cast (by first | rfl | (push_cast; rfl)) (mark2_RecordS _ _ _ (1) _ hog4 (Nat.le_trans hbd0 (by omega)) (fun g hg => Nat.lt_of_lt_of_le (hsg4 g hg).2 (by first | omega | (simp; done) | (simp; omega))) (by omega) (by omega))).mono ?_
  rintro e w10 ⟨rfl, hkg4, hO10⟩
  have hz10 := hO10.size
  have hb10 : Below w.heap.size w9 w10 := hO10.below (by omega) (fun q hq => by have h1 := (hsg4 q hq).1; omega)
  replace how2 := SlOwn.out how2 hO10 (fun g hg hg' => inR_apart (by first | (left; omega) | (right; omega)) g (hsw2 g hg) (hsg4 g hg'))
  go_wp2_with fail
  refine (Calls.cast (by first | rfl | (push_cast; rfl)) (held2_RecordS _ _ (1) _ (SlOwn.rd_in (SlOwn.offS hkg4 hsg4 (by (repeat (first | (with_reducible exact Out.refl _ _) | (with_reducible assumption) | ((with_reducible refine Out.setCell ?_ ?_ _); rotate_left; focus (first | (refine Or.inl ?_; (first | omega | (simp; done) | (simp; omega))) | (refine Or.inr ?_; (first | omega | (simp; done) | (simp; omega))))) | (with_reducible refine Out.alloc ?_ _) | (with_reducible refine Out.drew ?_) | (with_reducible refine Out.drewN ?_ _) | (refine Out.step ?_ (by with_reducible assumption)))))) hsg4 (by first | omega | (simp; done) | (simp; omega))) (Nat.le_trans hbd0 (by omega)) (by omega) (by omega))).mono ?_
  rintro e w11 ⟨rfl, hb11⟩
  have hz11 := hb11.size; try simp at hz11
  have hposh11 : (0 : Int) ≤ ((1 + cntList RecordR r0 : Nat) : Int) := by omega
  push_cast at hposh11
  go_wp2_with fail
  refine (to2_ByteS _ b _ (SlRd.keep hr_b (by (repeat (first | (with_reducible exact Below.refl _ _) | (with_reducible assumption) | ((with_reducible refine Below.setCell ?_ ?_ _); rotate_left; focus (first | omega | (simp; done) | (simp; omega))) | ((with_reducible refine Below.alloc ?_ ?_ _); rotate_left; focus (first | omega | (simp; done) | (simp; omega))) | (with_reducible refine Below.drew ?_) | (with_reducible refine below_drewN ?_ _) | (refine Below.trans ?_ (Below.mono (by with_reducible assumption) (by (first | omega | (simp; done) | (simp; omega)))))))) (by first | omega | (simp; done) | (simp; omega))) hm_b).mono ?_
  rintro e w12 ⟨_, rfl, hot12, hb12⟩
  obtain ⟨At12_0, ct12_0, rfl⟩ := SlOwn.form (id hot12)
  have hz12 := hb12.size; try simp at hz12
  replace hot12 := SlOwn.wide hot12 (inR_mono (lo' := w11.heap.size) (hi' := w12.heap.size) (by first | omega | (simp; done) | (simp; omega)) (by first | omega | (simp; done) | (simp; omega)))
  have hst12 : ∀ g, InR (w11.heap.size) (w12.heap.size) g → InR (w11.heap.size) (w12.heap.size) g := fun _ h => h
  go_wp2_with fail
  refine (impl_ScanFramesL _ b _ (SlOwn.rd_in (SlOwn.offS hot12 hst12 (by (repeat (first | (with_reducible exact Out.refl _ _) | (with_reducible assumption) | ((with_reducible refine Out.setCell ?_ ?_ _); rotate_left; focus (first | (refine Or.inl ?_; (first | omega | (simp; done) | (simp; omega))) | (refine Or.inr ?_; (first | omega | (simp; done) | (simp; omega))))) | (with_reducible refine Out.alloc ?_ _) | (with_reducible refine Out.drew ?_) | (with_reducible refine Out.drewN ?_ _) | (refine Out.step ?_ (by with_reducible assumption)))))) hst12 (by first | omega | (simp; done) | (simp; omega))) hm_b).mono ?_
  rintro e w13 ⟨_, rfl, hoh13, hb13⟩
  rw [HR0.out] at hoh13
  obtain ⟨Ah13_0, ch13_0, rfl⟩ := SlOwn.form (id hoh13)
  have hz13 := hb13.size; try simp at hz13
  replace hoh13 := SlOwn.wide hoh13 (inR_mono (lo' := w12.heap.size) (hi' := w13.heap.size) (by first | omega | (simp; done) | (simp; omega)) (by first | omega | (simp; done) | (simp; omega)))
  have hsh13 : ∀ g, InR (w12.heap.size) (w13.heap.size) g → InR (w12.heap.size) (w13.heap.size) g := fun _ h => h
  go_wp2_with fail
  refine (eq2_RecordS _ _ _ _ _ (SlOwn.rd_in (SlOwn.offS hoh13 hsh13 (by (repeat (first | (with_reducible exact Out.refl _ _) | (with_reducible assumption) | ((with_reducible refine Out.setCell ?_ ?_ _); rotate_left; focus (first | (refine Or.inl ?_; (first | omega | (simp; done) | (simp; omega))) | (refine Or.inr ?_; (first | omega | (simp; done) | (simp; omega))))) | (with_reducible refine Out.alloc ?_ _) | (with_reducible refine Out.drew ?_) | (with_reducible refine Out.drewN ?_ _) | (refine Out.step ?_ (by with_reducible assumption)))))) hsh13 (by first | omega | (simp; done) | (simp; omega))) (SlOwn.rd_in (SlOwn.offS how2 hsw2 (by (repeat (first | (with_reducible exact Out.refl _ _) | (with_reducible assumption) | ((with_reducible refine Out.setCell ?_ ?_ _); rotate_left; focus (first | (refine Or.inl ?_; (first | omega | (simp; done) | (simp; omega))) | (refine Or.inr ?_; (first | omega | (simp; done) | (simp; omega))))) | (with_reducible refine Out.alloc ?_ _) | (with_reducible refine Out.drew ?_) | (with_reducible refine Out.drewN ?_ _) | (refine Out.step ?_ (by with_reducible assumption)))))) hsw2 (by first | omega | (simp; done) | (simp; omega))) (by first | omega | (simp; done) | (simp; omega)) (by first | omega | (simp; done) | (simp; omega))).mono ?_
  rintro e w14 ⟨rfl, hb14⟩
  have hz14 := hb14.size; try simp at hz14
  go_wp2_with fail
  refine (Calls.cast (by first | rfl | (push_cast; rfl)) (held2_RecordS _ _ (1) _ (SlOwn.rd_in (SlOwn.offS hkg4 hsg4 (by (repeat (first | (with_reducible exact Out.refl _ _) | (with_reducible assumption) | ((with_reducible refine Out.setCell ?_ ?_ _); rotate_left; focus (first | (refine Or.inl ?_; (first | omega | (simp; done) | (simp; omega))) | (refine Or.inr ?_; (first | omega | (simp; done) | (simp; omega))))) | (with_reducible refine Out.alloc ?_ _) | (with_reducible refine Out.drew ?_) | (with_reducible refine Out.drewN ?_ _) | (refine Out.step ?_ (by with_reducible assumption)))))) hsg4 (by first | omega | (simp; done) | (simp; omega))) (Nat.le_trans hbd0 (by omega)) (by omega) (by omega))).mono ?_
  rintro e w15 ⟨rfl, hb15⟩
  have hz15 := hb15.size; try simp at hz15
  have hposh15 : (0 : Int) ≤ ((1 + cntList RecordR r0 : Nat) : Int) := by omega
  push_cast at hposh15
  go_wp2
  go_ret
  exact ⟨rfl, by (repeat (first | (with_reducible exact Below.refl _ _) | (with_reducible assumption) | ((with_reducible refine Below.setCell ?_ ?_ _); rotate_left; focus (first | omega | (simp; done) | (simp; omega))) | ((with_reducible refine Below.alloc ?_ ?_ _); rotate_left; focus (first | omega | (simp; done) | (simp; omega))) | (with_reducible refine Below.drew ?_) | (with_reducible refine below_drewN ?_ _) | (refine Below.trans ?_ (Below.mono (by with_reducible assumption) (by (first | omega | (simp; done) | (simp; omega)))))))⟩
end Go.Proofs.Ytgaenfkjobkmjaa

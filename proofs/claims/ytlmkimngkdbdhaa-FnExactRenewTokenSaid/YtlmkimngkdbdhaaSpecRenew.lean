/- RenewToken of the reference. -/
import Derived.Test.YtlmkimngkdbdhaaImplRenew
set_option linter.unusedSimpArgs false
set_option linter.unusedVariables false
namespace Go.Proofs.Ytlmkimngkdbdhaa
open Go.RowKit
set_option maxRecDepth 20000 in
set_option maxHeartbeats 6400000 in
theorem spec_RenewTokenL (cs : List Value) (f : Forest) (id now by_ : Int) (w : World) (h : ForestR.Rd w w.heap.size cs f) (hm : ForestR.sz f ≤ 1048576) :
    Calls Try.prog 27 #[.agg cs.toArray, .int .i64 id, .int .i64 now, .int .i64 by_] w fun e w' => ∃ cs', e = .returned (.tuple #[.agg cs'.toArray, .int .i64 (RenewC f.Tokens id now by_)]) ∧ ForestR.Own w' (InR w.heap.size w'.heap.size) cs' ⟨RenewT f.Tokens id now by_⟩ ∧ Below w.heap.size w w' := by
  obtain ⟨v0, rfl, q0⟩ := rd_Forest (_root_.id h)
  obtain ⟨A, c, rfl⟩ := q0.form
  have HOk := Lib.hid (fun (w' : World) (h : ForestR.Rd w' w'.heap.size [.slice A f.Tokens.length c] f) => spec_ForestOkL _ f w' h hm)
  have HR := Lib.hid (fun (w' : World) (hb : Below w.heap.size w w') (hz : w.heap.size ≤ w'.heap.size) => ForestR.rd_keep h hb hz)
  have HRs := Lib.hid (fun (w' : World) (hb : Below w.heap.size w w') (hz : w.heap.size ≤ w'.heap.size) => q0.keep hb hz)
  have HRb := Lib.hid (fun (w' : World) (hb : Below w.heap.size w w') => q0.below hb (Nat.le_refl _))
  rw [sz_Forest] at hm
  have hml : f.Tokens.length ≤ 1048576 := Nat.le_trans (Nat.le_add_right _ _) hm
  have HCl := Lib.hid (fun (w' : World) (h : SlRd TokenR w' w'.heap.size (.slice A f.Tokens.length c) f.Tokens) => spec_l08Copy A c f.Tokens w' h hm)
  have HAt := Lib.hid (fun (i : Int) (w' : World) (h : SlRd TokenR w' w'.heap.size (.slice A f.Tokens.length c) f.Tokens) => spec_l08At A c f.Tokens i w' h hm)
  clear h q0 hm
  generalize hT : f.Tokens = ts at *
  clear hT
  generalize hn : ts.length = n at *
  have Hn := Lib.hid hn
  clear hn
  go_enter Try.func27, Try.ntmps27
  go_wp2_with fail
  refine (HCl.out _ (HRs.out _ (by (repeat (first | (with_reducible exact Below.refl _ _) | (with_reducible assumption) | ((with_reducible refine Below.setCell ?_ ?_ _); rotate_left; focus (first | omega | (simp; done) | (simp; omega))) | ((with_reducible refine Below.alloc ?_ ?_ _); rotate_left; focus (first | omega | (simp; done) | (simp; omega))) | (with_reducible refine Below.drew ?_) | (with_reducible refine below_drewN ?_ _) | (refine Below.trans ?_ (Below.mono (by with_reducible assumption) (by (first | omega | (simp; done) | (simp; omega)))))))) (by first | omega | (simp; done) | (simp; omega)))).mono ?_
  rintro e w1 ⟨D, d, css, rfl, G, hb1⟩
  have hz1 := hb1.size; try simp at hz1
  have BK0 : Blk w1 w.heap.size 29 #[.slice A n c] := by (repeat (first | (with_reducible assumption) | ((with_reducible refine Blk.new' ?_); focus (simp; done)) | (with_reducible refine Blk.alloc ?_ _) | (with_reducible refine Blk.drew ?_) | (with_reducible refine Blk.drewN ?_ _) | ((with_reducible refine Blk.far ?_ ?_ _); rotate_left; focus (first | omega | (simp; done) | (simp; omega))) | (refine Blk.keep ?_ (by with_reducible assumption)) | (refine Blk.below ?_ (by with_reducible assumption) (by (first | omega | (simp; done) | (simp; omega))))))
  have BK1 : Blk w1 (w.heap.size + 1) 29 #[.slice none 0 0] := by (repeat (first | (with_reducible assumption) | ((with_reducible refine Blk.new' ?_); focus (simp; done)) | (with_reducible refine Blk.alloc ?_ _) | (with_reducible refine Blk.drew ?_) | (with_reducible refine Blk.drewN ?_ _) | ((with_reducible refine Blk.far ?_ ?_ _); rotate_left; focus (first | omega | (simp; done) | (simp; omega))) | (refine Blk.keep ?_ (by with_reducible assumption)) | (refine Blk.below ?_ (by with_reducible assumption) (by (first | omega | (simp; done) | (simp; omega))))))
  have hc0 := BK0.cell; have hf0 := BK0.frozen; have hl0 := BK0.lt; have hc1 := BK1.cell; have hf1 := BK1.frozen; have hl1 := BK1.lt
  go_wp2_with fail
  refine (HOk.out _ (HR.out _ (by (repeat (first | (with_reducible exact Below.refl _ _) | (with_reducible assumption) | ((with_reducible refine Below.setCell ?_ ?_ _); rotate_left; focus (first | omega | (simp; done) | (simp; omega))) | ((with_reducible refine Below.alloc ?_ ?_ _); rotate_left; focus (first | omega | (simp; done) | (simp; omega))) | (with_reducible refine Below.drew ?_) | (with_reducible refine below_drewN ?_ _) | (refine Below.trans ?_ (Below.mono (by with_reducible assumption) (by (first | omega | (simp; done) | (simp; omega)))))))) (by first | omega | (simp; done) | (simp; omega)))).mono ?_
  rintro e w2 ⟨rfl, hb2⟩
  have hz2 := hb2.size; try simp at hz2
  replace BK0 : Blk w2 w.heap.size 29 #[.slice A n c] := by (repeat (first | (with_reducible assumption) | ((with_reducible refine Blk.new' ?_); focus (simp; done)) | (with_reducible refine Blk.alloc ?_ _) | (with_reducible refine Blk.drew ?_) | (with_reducible refine Blk.drewN ?_ _) | ((with_reducible refine Blk.far ?_ ?_ _); rotate_left; focus (first | omega | (simp; done) | (simp; omega))) | (refine Blk.keep ?_ (by with_reducible assumption)) | (refine Blk.below ?_ (by with_reducible assumption) (by (first | omega | (simp; done) | (simp; omega))))))
  replace BK1 : Blk w2 (w.heap.size + 1) 29 #[.slice none 0 0] := by (repeat (first | (with_reducible assumption) | ((with_reducible refine Blk.new' ?_); focus (simp; done)) | (with_reducible refine Blk.alloc ?_ _) | (with_reducible refine Blk.drew ?_) | (with_reducible refine Blk.drewN ?_ _) | ((with_reducible refine Blk.far ?_ ?_ _); rotate_left; focus (first | omega | (simp; done) | (simp; omega))) | (refine Blk.keep ?_ (by with_reducible assumption)) | (refine Blk.below ?_ (by with_reducible assumption) (by (first | omega | (simp; done) | (simp; omega))))))
  have BKO : Blk w2 w1.heap.size 29 #[.slice D n d] := by (repeat (first | (with_reducible assumption) | ((with_reducible refine Blk.new' ?_); focus (simp; done)) | (with_reducible refine Blk.alloc ?_ _) | (with_reducible refine Blk.drew ?_) | (with_reducible refine Blk.drewN ?_ _) | ((with_reducible refine Blk.far ?_ ?_ _); rotate_left; focus (first | omega | (simp; done) | (simp; omega))) | (refine Blk.keep ?_ (by with_reducible assumption)) | (refine Blk.below ?_ (by with_reducible assumption) (by (first | omega | (simp; done) | (simp; omega))))))
  replace hc0 := BK0.cell; replace hf0 := BK0.frozen; replace hl0 := BK0.lt; replace hc1 := BK1.cell; replace hf1 := BK1.frozen; replace hl1 := BK1.lt
  have hco := BKO.cell; have hfo := BKO.frozen; have hlo := BKO.lt
  have G2 := Lib.hid (G.keep (by (repeat (first | (with_reducible exact Below.refl _ _) | (with_reducible assumption) | ((with_reducible refine Below.setCell ?_ ?_ _); rotate_left; focus (first | omega | (simp; done) | (simp; omega))) | ((with_reducible refine Below.alloc ?_ ?_ _); rotate_left; focus (first | omega | (simp; done) | (simp; omega))) | (with_reducible refine Below.drew ?_) | (with_reducible refine below_drewN ?_ _) | (refine Below.trans ?_ (Below.mono (by with_reducible assumption) (by (first | omega | (simp; done) | (simp; omega))))))) : Below w1.heap.size w1 w2))
  clear G
  cases hg : renewGood ts now by_
  · have HN := Lib.hid (Renew_bad (id := id) hg)
    have HG := Lib.hid hg
    clear hg
    cases hok : forestOk ts
    all_goals cases hw1 : withinB now 0 1000000000
    all_goals cases hw2 : withinB by_ 1 1000000000
    all_goals first
      | (exfalso; have hh := HG.out; unfold renewGood at hh; rw [hok, hw1, hw2] at hh; exact absurd hh (by decide))
      | skip
    all_goals
      have HW1 := Lib.hid hw1; have HW2 := Lib.hid hw2
      clear hw1 hw2 hok
      go_wp2_with (go_at_call 49; first | ((with_reducible refine (spec_l01In_b HW1.out _).mono ?_); rintro e w' ⟨rfl, rfl⟩) | ((with_reducible refine (spec_l01In_b HW2.out _).mono ?_); rintro e w' ⟨rfl, rfl⟩))
      refine bodyPost_ret (v := .tuple #[.agg #[.slice D n d], .int .i64 1]) (by simp [results, Try.results27, go_sem, hc1, hf1]) rfl ⟨[.slice D n d], by rw [HN.out.1], ?_, by (repeat (first | (with_reducible exact Below.refl _ _) | (with_reducible assumption) | ((with_reducible refine Below.setCell ?_ ?_ _); rotate_left; focus (first | omega | (simp; done) | (simp; omega))) | ((with_reducible refine Below.alloc ?_ ?_ _); rotate_left; focus (first | omega | (simp; done) | (simp; omega))) | (with_reducible refine Below.drew ?_) | (with_reducible refine below_drewN ?_ _) | (refine Below.trans ?_ (Below.mono (by with_reducible assumption) (by (first | omega | (simp; done) | (simp; omega)))))))⟩
      rw [HN.out.2]
      exact ForestR.own_wide (G2.out.setC (a := ⟨w.heap.size + 1, 0, none⟩) (by simp) _).forest (inR_mono (by first | omega | (simp; done) | (simp; omega)) (by first | omega | (simp; done) | (simp; omega)))
  have HGd := Lib.hid (Renew_good (id := id) hg)
  unfold renewGood at hg
  simp only [Bool.and_eq_true] at hg
  obtain ⟨hok, hw1, hw2⟩ := hg
  obtain ⟨hn0, hn1⟩ := withinB_iff.1 hw1
  obtain ⟨hy0, hy1⟩ := withinB_iff.1 hw2
  have HW1 := Lib.hid hw1; have HW2 := Lib.hid hw2; have HK := Lib.hid hok
  clear hw1 hw2 hok
  rw [HK.out]
  go_wp2_with (first
    | (go_at_call 49; first | ((with_reducible refine (spec_l01In_b HW1.out _).mono ?_); rintro e w' ⟨rfl, rfl⟩) | ((with_reducible refine (spec_l01In_b HW2.out _).mono ?_); rintro e w' ⟨rfl, rfl⟩))
    | (go_at_call 34; fail))
  refine (HAt.out id _ (HRs.out _ (by (repeat (first | (with_reducible exact Below.refl _ _) | (with_reducible assumption) | ((with_reducible refine Below.setCell ?_ ?_ _); rotate_left; focus (first | omega | (simp; done) | (simp; omega))) | ((with_reducible refine Below.alloc ?_ ?_ _); rotate_left; focus (first | omega | (simp; done) | (simp; omega))) | (with_reducible refine Below.drew ?_) | (with_reducible refine below_drewN ?_ _) | (refine Below.trans ?_ (Below.mono (by with_reducible assumption) (by (first | omega | (simp; done) | (simp; omega)))))))) (by first | omega | (simp; done) | (simp; omega)))).mono ?_
  rintro e w3 ⟨rfl, hb3⟩
  have hz3 := hb3.size; try simp at hz3
  replace BK0 : Blk w3 w.heap.size 29 #[.slice A n c] := by (repeat (first | (with_reducible assumption) | ((with_reducible refine Blk.new' ?_); focus (simp; done)) | (with_reducible refine Blk.alloc ?_ _) | (with_reducible refine Blk.drew ?_) | (with_reducible refine Blk.drewN ?_ _) | ((with_reducible refine Blk.far ?_ ?_ _); rotate_left; focus (first | omega | (simp; done) | (simp; omega))) | (refine Blk.keep ?_ (by with_reducible assumption)) | (refine Blk.below ?_ (by with_reducible assumption) (by (first | omega | (simp; done) | (simp; omega))))))
  replace BK1 : Blk w3 (w.heap.size + 1) 29 #[.slice none 0 0] := by (repeat (first | (with_reducible assumption) | ((with_reducible refine Blk.new' ?_); focus (simp; done)) | (with_reducible refine Blk.alloc ?_ _) | (with_reducible refine Blk.drew ?_) | (with_reducible refine Blk.drewN ?_ _) | ((with_reducible refine Blk.far ?_ ?_ _); rotate_left; focus (first | omega | (simp; done) | (simp; omega))) | (refine Blk.keep ?_ (by with_reducible assumption)) | (refine Blk.below ?_ (by with_reducible assumption) (by (first | omega | (simp; done) | (simp; omega))))))
  replace BKO : Blk w3 w1.heap.size 29 #[.slice D n d] := by (repeat (first | (with_reducible assumption) | ((with_reducible refine Blk.new' ?_); focus (simp; done)) | (with_reducible refine Blk.alloc ?_ _) | (with_reducible refine Blk.drew ?_) | (with_reducible refine Blk.drewN ?_ _) | ((with_reducible refine Blk.far ?_ ?_ _); rotate_left; focus (first | omega | (simp; done) | (simp; omega))) | (refine Blk.keep ?_ (by with_reducible assumption)) | (refine Blk.below ?_ (by with_reducible assumption) (by (first | omega | (simp; done) | (simp; omega))))))
  replace hc0 := BK0.cell; replace hf0 := BK0.frozen; replace hl0 := BK0.lt; replace hc1 := BK1.cell; replace hf1 := BK1.frozen; replace hl1 := BK1.lt
  replace hco := BKO.cell; replace hfo := BKO.frozen; replace hlo := BKO.lt
  replace G2 := Lib.hid (G2.out.keep hb3)
  by_cases hx : idxT ts id < 0
  · have HN := Lib.hid (renew_none (now := now) (by_ := by_) hx)
    go_wp2
    refine bodyPost_ret (v := .tuple #[.agg #[.slice D n d], .int .i64 2]) (by simp [results, Try.results27, go_sem, hc1, hf1]) rfl ⟨[.slice D n d], by rw [HGd.out.1, HN.out.1], ?_, by (repeat (first | (with_reducible exact Below.refl _ _) | (with_reducible assumption) | ((with_reducible refine Below.setCell ?_ ?_ _); rotate_left; focus (first | omega | (simp; done) | (simp; omega))) | ((with_reducible refine Below.alloc ?_ ?_ _); rotate_left; focus (first | omega | (simp; done) | (simp; omega))) | (with_reducible refine Below.drew ?_) | (with_reducible refine below_drewN ?_ _) | (refine Below.trans ?_ (Below.mono (by with_reducible assumption) (by (first | omega | (simp; done) | (simp; omega)))))))⟩
    rw [HGd.out.2, HN.out.2]
    exact ForestR.own_wide (G2.out.setC (a := ⟨w.heap.size + 1, 0, none⟩) (by simp) _).forest (inR_mono (by first | omega | (simp; done) | (simp; omega)) (by first | omega | (simp; done) | (simp; omega)))
  obtain ⟨i, t, e1, e2, e3⟩ := tok_at (Int.not_lt.1 hx)
  have hi := idxT_small e1
  rw [Hn.out] at hi
  have hbw3 : Below w.heap.size w w3 := by (repeat (first | (with_reducible exact Below.refl _ _) | (with_reducible assumption) | ((with_reducible refine Below.setCell ?_ ?_ _); rotate_left; focus (first | omega | (simp; done) | (simp; omega))) | ((with_reducible refine Below.alloc ?_ ?_ _); rotate_left; focus (first | omega | (simp; done) | (simp; omega))) | (with_reducible refine Below.drew ?_) | (with_reducible refine below_drewN ?_ _) | (refine Below.trans ?_ (Below.mono (by with_reducible assumption) (by (first | omega | (simp; done) | (simp; omega)))))))
  obtain ⟨b, off, An, cn, rfl, hab, hnm, ha0, ha1, ha2, ha3, ha4, ha5, ha6⟩ := tok_elem (HRb.out _ hbw3) e2
  clear hbw3
  have hd : decide ((i : Int) < 0) = false := by simp
  have HMade := Lib.hid (fun (x : Bool) (h : lateB t now = x) => h)
  cases ho : overB t.Ends now
  rotate_left
  · have HN := Lib.hid (renew_late (by_ := by_) e1 e2 (by unfold lateB; rw [ho]; rfl))
    have HL := Lib.hid ho
    rw [e1] at hx ⊢
    clear e1 e2 e3 ho
    go_wp2_with fail
    refine (spec_l08Over_b HL.out _ _ _).mono ?_
    rintro e w4 ⟨rfl, hb4⟩
    have hz4 := hb4.size; try simp at hz4
    replace BK1 : Blk w4 (w.heap.size + 1) 29 #[.slice none 0 0] := by (repeat (first | (with_reducible assumption) | ((with_reducible refine Blk.new' ?_); focus (simp; done)) | (with_reducible refine Blk.alloc ?_ _) | (with_reducible refine Blk.drew ?_) | (with_reducible refine Blk.drewN ?_ _) | ((with_reducible refine Blk.far ?_ ?_ _); rotate_left; focus (first | omega | (simp; done) | (simp; omega))) | (refine Blk.keep ?_ (by with_reducible assumption)) | (refine Blk.below ?_ (by with_reducible assumption) (by (first | omega | (simp; done) | (simp; omega))))))
    replace BKO : Blk w4 w1.heap.size 29 #[.slice D n d] := by (repeat (first | (with_reducible assumption) | ((with_reducible refine Blk.new' ?_); focus (simp; done)) | (with_reducible refine Blk.alloc ?_ _) | (with_reducible refine Blk.drew ?_) | (with_reducible refine Blk.drewN ?_ _) | ((with_reducible refine Blk.far ?_ ?_ _); rotate_left; focus (first | omega | (simp; done) | (simp; omega))) | (refine Blk.keep ?_ (by with_reducible assumption)) | (refine Blk.below ?_ (by with_reducible assumption) (by (first | omega | (simp; done) | (simp; omega))))))
    replace hc1 := BK1.cell; replace hf1 := BK1.frozen; replace hl1 := BK1.lt
    replace hco := BKO.cell; replace hfo := BKO.frozen; replace hlo := BKO.lt
    have G3 := Lib.hid ((G2.out.keep (by (repeat (first | (with_reducible exact Below.refl _ _) | (with_reducible assumption) | ((with_reducible refine Below.setCell ?_ ?_ _); rotate_left; focus (first | omega | (simp; done) | (simp; omega))) | ((with_reducible refine Below.alloc ?_ ?_ _); rotate_left; focus (first | omega | (simp; done) | (simp; omega))) | (with_reducible refine Below.drew ?_) | (with_reducible refine below_drewN ?_ _) | (refine Below.trans ?_ (Below.mono (by with_reducible assumption) (by (first | omega | (simp; done) | (simp; omega))))))) : Below w3.heap.size w3 w4)))
    go_wp2
    refine bodyPost_ret (v := .tuple #[.agg #[.slice D n d], .int .i64 3]) (by simp [results, Try.results27, go_sem, hc1, hf1]) rfl ⟨[.slice D n d], by rw [HGd.out.1, HN.out.1], ?_, by (repeat (first | (with_reducible exact Below.refl _ _) | (with_reducible assumption) | ((with_reducible refine Below.setCell ?_ ?_ _); rotate_left; focus (first | omega | (simp; done) | (simp; omega))) | ((with_reducible refine Below.alloc ?_ ?_ _); rotate_left; focus (first | omega | (simp; done) | (simp; omega))) | (with_reducible refine Below.drew ?_) | (with_reducible refine below_drewN ?_ _) | (refine Below.trans ?_ (Below.mono (by with_reducible assumption) (by (first | omega | (simp; done) | (simp; omega)))))))⟩
    rw [HGd.out.2, HN.out.2]
    exact ForestR.own_wide (G3.out.setC (a := ⟨w.heap.size + 1, 0, none⟩) (by simp) _).forest (inR_mono (by first | omega | (simp; done) | (simp; omega)) (by first | omega | (simp; done) | (simp; omega)))
  by_cases hmd : now < t.Made
  · have HN := Lib.hid (renew_late (by_ := by_) e1 e2 (by unfold lateB; rw [ho]; simpa using hmd))
    have HL := Lib.hid ho
    rw [e1] at hx ⊢
    clear e1 e2 e3 ho
    go_wp2_with fail
    refine (spec_l08Over_b HL.out _ _ _).mono ?_
    rintro e w4 ⟨rfl, hb4⟩
    have hz4 := hb4.size; try simp at hz4
    replace BK1 : Blk w4 (w.heap.size + 1) 29 #[.slice none 0 0] := by (repeat (first | (with_reducible assumption) | ((with_reducible refine Blk.new' ?_); focus (simp; done)) | (with_reducible refine Blk.alloc ?_ _) | (with_reducible refine Blk.drew ?_) | (with_reducible refine Blk.drewN ?_ _) | ((with_reducible refine Blk.far ?_ ?_ _); rotate_left; focus (first | omega | (simp; done) | (simp; omega))) | (refine Blk.keep ?_ (by with_reducible assumption)) | (refine Blk.below ?_ (by with_reducible assumption) (by (first | omega | (simp; done) | (simp; omega))))))
    replace BKO : Blk w4 w1.heap.size 29 #[.slice D n d] := by (repeat (first | (with_reducible assumption) | ((with_reducible refine Blk.new' ?_); focus (simp; done)) | (with_reducible refine Blk.alloc ?_ _) | (with_reducible refine Blk.drew ?_) | (with_reducible refine Blk.drewN ?_ _) | ((with_reducible refine Blk.far ?_ ?_ _); rotate_left; focus (first | omega | (simp; done) | (simp; omega))) | (refine Blk.keep ?_ (by with_reducible assumption)) | (refine Blk.below ?_ (by with_reducible assumption) (by (first | omega | (simp; done) | (simp; omega))))))
    have BKT : Blk w4 w3.heap.size 37 #[.int .i64 t.Id, .int .i64 t.Parent, .slice An t.Names.length cn, .int .i64 t.Made, .int .i64 t.Ends, .int .i64 t.Limit, .int .i64 t.Uses] := by (repeat (first | (with_reducible assumption) | ((with_reducible refine Blk.new' ?_); focus (simp; done)) | (with_reducible refine Blk.alloc ?_ _) | (with_reducible refine Blk.drew ?_) | (with_reducible refine Blk.drewN ?_ _) | ((with_reducible refine Blk.far ?_ ?_ _); rotate_left; focus (first | omega | (simp; done) | (simp; omega))) | (refine Blk.keep ?_ (by with_reducible assumption)) | (refine Blk.below ?_ (by with_reducible assumption) (by (first | omega | (simp; done) | (simp; omega))))))
    replace hc1 := BK1.cell; replace hf1 := BK1.frozen; replace hl1 := BK1.lt
    replace hco := BKO.cell; replace hfo := BKO.frozen; replace hlo := BKO.lt
    have hct := BKT.cell
    have G3 := Lib.hid ((G2.out.keep (by (repeat (first | (with_reducible exact Below.refl _ _) | (with_reducible assumption) | ((with_reducible refine Below.setCell ?_ ?_ _); rotate_left; focus (first | omega | (simp; done) | (simp; omega))) | ((with_reducible refine Below.alloc ?_ ?_ _); rotate_left; focus (first | omega | (simp; done) | (simp; omega))) | (with_reducible refine Below.drew ?_) | (with_reducible refine below_drewN ?_ _) | (refine Below.trans ?_ (Below.mono (by with_reducible assumption) (by (first | omega | (simp; done) | (simp; omega))))))) : Below w3.heap.size w3 w4)))
    go_wp2
    refine bodyPost_ret (v := .tuple #[.agg #[.slice D n d], .int .i64 3]) (by simp [results, Try.results27, go_sem, hc1, hf1]) rfl ⟨[.slice D n d], by rw [HGd.out.1, HN.out.1], ?_, by (repeat (first | (with_reducible exact Below.refl _ _) | (with_reducible assumption) | ((with_reducible refine Below.setCell ?_ ?_ _); rotate_left; focus (first | omega | (simp; done) | (simp; omega))) | ((with_reducible refine Below.alloc ?_ ?_ _); rotate_left; focus (first | omega | (simp; done) | (simp; omega))) | (with_reducible refine Below.drew ?_) | (with_reducible refine below_drewN ?_ _) | (refine Below.trans ?_ (Below.mono (by with_reducible assumption) (by (first | omega | (simp; done) | (simp; omega)))))))⟩
    rw [HGd.out.2, HN.out.2]
    exact ForestR.own_wide (G3.out.setC (a := ⟨w.heap.size + 1, 0, none⟩) (by simp) _).forest (inR_mono (by first | omega | (simp; done) | (simp; omega)) (by first | omega | (simp; done) | (simp; omega)))
  have hl : lateB t now = false := by unfold lateB; rw [ho]; simpa using hmd
  have HL := Lib.hid ho
  have HMore := Lib.hid (fun (he : 1000000000 < endsNew t now by_) => renew_more e1 e2 hl he)
  have HDone := Lib.hid (fun (he : ¬ 1000000000 < endsNew t now by_) => renew_done e1 e2 hl he)
  have H2 := Lib.hid e2
  rw [e1] at hx ⊢
  clear e1 e2 e3 hl ho
  go_wp2_with fail
  refine (spec_l08Over_b HL.out _ _ _).mono ?_
  rintro e w4 ⟨rfl, hb4⟩
  have hz4 := hb4.size; try simp at hz4
  replace BK1 : Blk w4 (w.heap.size + 1) 29 #[.slice none 0 0] := by (repeat (first | (with_reducible assumption) | ((with_reducible refine Blk.new' ?_); focus (simp; done)) | (with_reducible refine Blk.alloc ?_ _) | (with_reducible refine Blk.drew ?_) | (with_reducible refine Blk.drewN ?_ _) | ((with_reducible refine Blk.far ?_ ?_ _); rotate_left; focus (first | omega | (simp; done) | (simp; omega))) | (refine Blk.keep ?_ (by with_reducible assumption)) | (refine Blk.below ?_ (by with_reducible assumption) (by (first | omega | (simp; done) | (simp; omega))))))
  replace BKO : Blk w4 w1.heap.size 29 #[.slice D n d] := by (repeat (first | (with_reducible assumption) | ((with_reducible refine Blk.new' ?_); focus (simp; done)) | (with_reducible refine Blk.alloc ?_ _) | (with_reducible refine Blk.drew ?_) | (with_reducible refine Blk.drewN ?_ _) | ((with_reducible refine Blk.far ?_ ?_ _); rotate_left; focus (first | omega | (simp; done) | (simp; omega))) | (refine Blk.keep ?_ (by with_reducible assumption)) | (refine Blk.below ?_ (by with_reducible assumption) (by (first | omega | (simp; done) | (simp; omega))))))
  have BKT : Blk w4 w3.heap.size 37 #[.int .i64 t.Id, .int .i64 t.Parent, .slice An t.Names.length cn, .int .i64 t.Made, .int .i64 t.Ends, .int .i64 t.Limit, .int .i64 t.Uses] := by (repeat (first | (with_reducible assumption) | ((with_reducible refine Blk.new' ?_); focus (simp; done)) | (with_reducible refine Blk.alloc ?_ _) | (with_reducible refine Blk.drew ?_) | (with_reducible refine Blk.drewN ?_ _) | ((with_reducible refine Blk.far ?_ ?_ _); rotate_left; focus (first | omega | (simp; done) | (simp; omega))) | (refine Blk.keep ?_ (by with_reducible assumption)) | (refine Blk.below ?_ (by with_reducible assumption) (by (first | omega | (simp; done) | (simp; omega))))))
  replace hc1 := BK1.cell; replace hf1 := BK1.frozen; replace hl1 := BK1.lt
  replace hco := BKO.cell; replace hfo := BKO.frozen; replace hlo := BKO.lt
  have hct := BKT.cell
  have hb34 : Below w3.heap.size w3 w4 := by (repeat (first | (with_reducible exact Below.refl _ _) | (with_reducible assumption) | ((with_reducible refine Below.setCell ?_ ?_ _); rotate_left; focus (first | omega | (simp; done) | (simp; omega))) | ((with_reducible refine Below.alloc ?_ ?_ _); rotate_left; focus (first | omega | (simp; done) | (simp; omega))) | (with_reducible refine Below.drew ?_) | (with_reducible refine below_drewN ?_ _) | (refine Below.trans ?_ (Below.mono (by with_reducible assumption) (by (first | omega | (simp; done) | (simp; omega)))))))
  have G3 := Lib.hid (G2.out.keep hb34)
  clear hc0 hf0 hl0 BK0 ha0 ha1 ha2 ha3 ha4 ha5 ha6
  obtain ⟨g, rfl⟩ := G3.out.some_addr (by omega)
  obtain ⟨D3, d3, hcs, hg1', hg2', hat⟩ := grow_tok G3.out H2.out
  have HCs := Lib.hid hcs
  have hqf := (hat 4 _ rfl).2
  have hqc := (hat 4 _ rfl).1
  clear hcs hat
  have hgw : w.heap.size ≤ g := by (have := hg1'; simp at this; omega)
  cases hL0 : t.Limit != 0
  · have HV : Hid (endsNew t now by_ = now + by_) := Lib.hid (by unfold endsNew; rw [hL0]; rfl)
    go_wp2
    · have HN := Lib.hid (HMore.out (by rw [HV.out]; assumption))
      refine bodyPost_ret (v := .tuple #[.agg #[.slice (some ⟨g, 0, none⟩) n d], .int .i64 4]) (by simp [results, Try.results27, go_sem, hc1, hf1, hco, hfo]) rfl ⟨[.slice (some ⟨g, 0, none⟩) n d], by rw [HGd.out.1, HN.out.1], ?_, by (repeat (first | (with_reducible exact Below.refl _ _) | (with_reducible assumption) | ((with_reducible refine Below.setCell ?_ ?_ _); rotate_left; focus (first | omega | (simp; done) | (simp; omega))) | ((with_reducible refine Below.alloc ?_ ?_ _); rotate_left; focus (first | omega | (simp; done) | (simp; omega))) | (with_reducible refine Below.drew ?_) | (with_reducible refine below_drewN ?_ _) | (refine Below.trans ?_ (Below.mono (by with_reducible assumption) (by (first | omega | (simp; done) | (simp; omega)))))))⟩
      rw [HGd.out.2, HN.out.2]
      exact ForestR.own_wide (G3.out.setC (a := ⟨w.heap.size + 1, 0, none⟩) (by simp) _).forest (inR_mono (by first | omega | (simp; done) | (simp; omega)) (by first | omega | (simp; done) | (simp; omega)))
    · have HN := Lib.hid (HDone.out (by rw [HV.out]; assumption))
      rw [HV.out] at HN
      have hG := ((G3.out.set H2.out HCs.out (k := 4) (by decide) (.int .i64 (now + by_)) (x' := withEnds t (now + by_)) (fun _ _ h => own_cells (t' := withEnds t (now + by_)) h rfl rfl)).setC (a := ⟨w.heap.size + 1, 0, none⟩) (by simp) (.slice (some ⟨g, 0, none⟩) n d)).forest
      refine bodyPost_ret (v := .tuple #[.agg #[.slice (some ⟨g, 0, none⟩) n d], .int .i64 0]) (by simp [results, Try.results27, go_sem, hc1, hf1, hco, hfo]) rfl ⟨[.slice (some ⟨g, 0, none⟩) n d], by rw [HGd.out.1, HN.out.1], ?_, by (repeat (first | (with_reducible exact Below.refl _ _) | (with_reducible assumption) | ((with_reducible refine Below.setCell ?_ ?_ _); rotate_left; focus (first | omega | (simp; done) | (simp; omega))) | ((with_reducible refine Below.alloc ?_ ?_ _); rotate_left; focus (first | omega | (simp; done) | (simp; omega))) | (with_reducible refine Below.drew ?_) | (with_reducible refine below_drewN ?_ _) | (refine Below.trans ?_ (Below.mono (by with_reducible assumption) (by (first | omega | (simp; done) | (simp; omega)))))))⟩
      rw [HGd.out.2, HN.out.2]
      exact ForestR.own_wide hG (inR_mono (by first | omega | (simp; done) | (simp; omega)) (by first | omega | (simp; done) | (simp; omega)))
  · by_cases hlm : t.Limit < now + by_
    · have HV : Hid (endsNew t now by_ = t.Limit) := Lib.hid (by unfold endsNew; rw [hL0, decide_eq_true hlm]; rfl)
      go_wp2
      · have HN := Lib.hid (HMore.out (by rw [HV.out]; assumption))
        refine bodyPost_ret (v := .tuple #[.agg #[.slice (some ⟨g, 0, none⟩) n d], .int .i64 4]) (by simp [results, Try.results27, go_sem, hc1, hf1, hco, hfo]) rfl ⟨[.slice (some ⟨g, 0, none⟩) n d], by rw [HGd.out.1, HN.out.1], ?_, by (repeat (first | (with_reducible exact Below.refl _ _) | (with_reducible assumption) | ((with_reducible refine Below.setCell ?_ ?_ _); rotate_left; focus (first | omega | (simp; done) | (simp; omega))) | ((with_reducible refine Below.alloc ?_ ?_ _); rotate_left; focus (first | omega | (simp; done) | (simp; omega))) | (with_reducible refine Below.drew ?_) | (with_reducible refine below_drewN ?_ _) | (refine Below.trans ?_ (Below.mono (by with_reducible assumption) (by (first | omega | (simp; done) | (simp; omega)))))))⟩
        rw [HGd.out.2, HN.out.2]
        exact ForestR.own_wide (G3.out.setC (a := ⟨w.heap.size + 1, 0, none⟩) (by simp) _).forest (inR_mono (by first | omega | (simp; done) | (simp; omega)) (by first | omega | (simp; done) | (simp; omega)))
      · have HN := Lib.hid (HDone.out (by rw [HV.out]; assumption))
        rw [HV.out] at HN
        have hG := ((G3.out.set H2.out HCs.out (k := 4) (by decide) (.int .i64 (t.Limit)) (x' := withEnds t (t.Limit)) (fun _ _ h => own_cells (t' := withEnds t (t.Limit)) h rfl rfl)).setC (a := ⟨w.heap.size + 1, 0, none⟩) (by simp) (.slice (some ⟨g, 0, none⟩) n d)).forest
        refine bodyPost_ret (v := .tuple #[.agg #[.slice (some ⟨g, 0, none⟩) n d], .int .i64 0]) (by simp [results, Try.results27, go_sem, hc1, hf1, hco, hfo]) rfl ⟨[.slice (some ⟨g, 0, none⟩) n d], by rw [HGd.out.1, HN.out.1], ?_, by (repeat (first | (with_reducible exact Below.refl _ _) | (with_reducible assumption) | ((with_reducible refine Below.setCell ?_ ?_ _); rotate_left; focus (first | omega | (simp; done) | (simp; omega))) | ((with_reducible refine Below.alloc ?_ ?_ _); rotate_left; focus (first | omega | (simp; done) | (simp; omega))) | (with_reducible refine Below.drew ?_) | (with_reducible refine below_drewN ?_ _) | (refine Below.trans ?_ (Below.mono (by with_reducible assumption) (by (first | omega | (simp; done) | (simp; omega)))))))⟩
        rw [HGd.out.2, HN.out.2]
        exact ForestR.own_wide hG (inR_mono (by first | omega | (simp; done) | (simp; omega)) (by first | omega | (simp; done) | (simp; omega)))
    · have HV : Hid (endsNew t now by_ = now + by_) := Lib.hid (by unfold endsNew; rw [hL0, decide_eq_false hlm]; rfl)
      go_wp2
      · have HN := Lib.hid (HMore.out (by rw [HV.out]; assumption))
        refine bodyPost_ret (v := .tuple #[.agg #[.slice (some ⟨g, 0, none⟩) n d], .int .i64 4]) (by simp [results, Try.results27, go_sem, hc1, hf1, hco, hfo]) rfl ⟨[.slice (some ⟨g, 0, none⟩) n d], by rw [HGd.out.1, HN.out.1], ?_, by (repeat (first | (with_reducible exact Below.refl _ _) | (with_reducible assumption) | ((with_reducible refine Below.setCell ?_ ?_ _); rotate_left; focus (first | omega | (simp; done) | (simp; omega))) | ((with_reducible refine Below.alloc ?_ ?_ _); rotate_left; focus (first | omega | (simp; done) | (simp; omega))) | (with_reducible refine Below.drew ?_) | (with_reducible refine below_drewN ?_ _) | (refine Below.trans ?_ (Below.mono (by with_reducible assumption) (by (first | omega | (simp; done) | (simp; omega)))))))⟩
        rw [HGd.out.2, HN.out.2]
        exact ForestR.own_wide (G3.out.setC (a := ⟨w.heap.size + 1, 0, none⟩) (by simp) _).forest (inR_mono (by first | omega | (simp; done) | (simp; omega)) (by first | omega | (simp; done) | (simp; omega)))
      · have HN := Lib.hid (HDone.out (by rw [HV.out]; assumption))
        rw [HV.out] at HN
        have hG := ((G3.out.set H2.out HCs.out (k := 4) (by decide) (.int .i64 (now + by_)) (x' := withEnds t (now + by_)) (fun _ _ h => own_cells (t' := withEnds t (now + by_)) h rfl rfl)).setC (a := ⟨w.heap.size + 1, 0, none⟩) (by simp) (.slice (some ⟨g, 0, none⟩) n d)).forest
        refine bodyPost_ret (v := .tuple #[.agg #[.slice (some ⟨g, 0, none⟩) n d], .int .i64 0]) (by simp [results, Try.results27, go_sem, hc1, hf1, hco, hfo]) rfl ⟨[.slice (some ⟨g, 0, none⟩) n d], by rw [HGd.out.1, HN.out.1], ?_, by (repeat (first | (with_reducible exact Below.refl _ _) | (with_reducible assumption) | ((with_reducible refine Below.setCell ?_ ?_ _); rotate_left; focus (first | omega | (simp; done) | (simp; omega))) | ((with_reducible refine Below.alloc ?_ ?_ _); rotate_left; focus (first | omega | (simp; done) | (simp; omega))) | (with_reducible refine Below.drew ?_) | (with_reducible refine below_drewN ?_ _) | (refine Below.trans ?_ (Below.mono (by with_reducible assumption) (by (first | omega | (simp; done) | (simp; omega)))))))⟩
        rw [HGd.out.2, HN.out.2]
        exact ForestR.own_wide hG (inR_mono (by first | omega | (simp; done) | (simp; omega)) (by first | omega | (simp; done) | (simp; omega)))
end Go.Proofs.Ytlmkimngkdbdhaa

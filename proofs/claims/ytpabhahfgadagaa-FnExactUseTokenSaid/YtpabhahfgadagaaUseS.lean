/- UseToken of the reference. -/
import Derived.Test.YtpabhahfgadagaaPureUse
import Derived.Test.YtpabhahfgadagaaGrowTok
import Derived.Test.YtpabhahfgadagaaLess
import Derived.Test.YtpabhahfgadagaaBelow
import Derived.Test.YtpabhahfgadagaaForestL
set_option linter.unusedSimpArgs false
set_option linter.unusedVariables false
namespace Go.Proofs.Ytpabhahfgadagaa
open Go.RowKit
set_option maxRecDepth 20000 in
set_option maxHeartbeats 6400000 in
theorem spec_UseTokenL (cs : List Value) (f : Forest) (id now : Int) (w : World) (h : ForestR.Rd w w.heap.size cs f) (hm : ForestR.sz f ≤ 1048576) :
    Calls Try.prog 25 #[.agg cs.toArray, .int .i64 id, .int .i64 now] w fun e w' => ∃ cs', e = .returned (.tuple #[.agg cs'.toArray, .int .i64 (UseC f.Tokens id now)]) ∧ ForestR.Own w' (InR w.heap.size w'.heap.size) cs' ⟨UseT f.Tokens id now⟩ ∧ Below w.heap.size w w' := by
  obtain ⟨v0, rfl, q0⟩ := rd_Forest (_root_.id h)
  obtain ⟨A, c, rfl⟩ := q0.form
  have HOk := Lib.hid (fun (w' : World) (h : ForestR.Rd w' w'.heap.size [.slice A f.Tokens.length c] f) => spec_ForestOkL _ f w' h hm)
  have HBe := Lib.hid (fun (w' : World) (h : ForestR.Rd w' w'.heap.size [.slice A f.Tokens.length c] f) => spec_BelowL _ f id w' h hm)
  have HR := Lib.hid (fun (w' : World) (hb : Below w.heap.size w w') (hz : w.heap.size ≤ w'.heap.size) => ForestR.rd_keep h hb hz)
  have HRs := Lib.hid (fun (w' : World) (hb : Below w.heap.size w w') (hz : w.heap.size ≤ w'.heap.size) => q0.keep hb hz)
  have HRb := Lib.hid (fun (w' : World) (hb : Below w.heap.size w w') => q0.below hb (Nat.le_refl _))
  rw [sz_Forest] at hm
  have hml : f.Tokens.length ≤ 1048576 := Nat.le_trans (Nat.le_add_right _ _) hm
  have HCl := Lib.hid (fun (w' : World) (h : SlRd TokenR w' w'.heap.size (.slice A f.Tokens.length c) f.Tokens) => spec_l08Copy A c f.Tokens w' h hm)
  have HAt := Lib.hid (fun (i : Int) (w' : World) (h : SlRd TokenR w' w'.heap.size (.slice A f.Tokens.length c) f.Tokens) => spec_l08At A c f.Tokens i w' h hm)
  have hbl := belowF_len f.Tokens id
  have HLe := Lib.hid (fun (Ag : Option Addr) (cg : Nat) (w' : World) (h : SlRd TokenR w' w'.heap.size (.slice A f.Tokens.length c) f.Tokens) (hg : Reads w' w'.heap.size Ag ((belowF f.Tokens id).map intV)) => spec_l08Less A c f.Tokens Ag cg (belowF f.Tokens id) w' h hm hg (by omega))
  clear h q0 hm hbl
  generalize hT : f.Tokens = ts at *
  clear hT
  generalize hn : ts.length = n at *
  have Hn := Lib.hid hn
  clear hn
  go_enter Try.func25, Try.ntmps25
  go_wp2_with fail
  refine (HCl.out _ (HRs.out _ (by (repeat (first | (with_reducible exact Below.refl _ _) | (with_reducible assumption) | ((with_reducible refine Below.setCell ?_ ?_ _); rotate_left; focus (first | omega | (simp; done) | (simp; omega))) | ((with_reducible refine Below.alloc ?_ ?_ _); rotate_left; focus (first | omega | (simp; done) | (simp; omega))) | (with_reducible refine Below.drew ?_) | (with_reducible refine below_drewN ?_ _) | (refine Below.trans ?_ (Below.mono (by with_reducible assumption) (by (first | omega | (simp; done) | (simp; omega)))))))) (by first | omega | (simp; done) | (simp; omega)))).mono ?_
  rintro e w1 ⟨D, d, css, rfl, G, hb1⟩
  have hz1 := hb1.size; try simp at hz1
  have BK0 : Blk w1 w.heap.size 32 #[.slice A n c] := by (repeat (first | (with_reducible assumption) | ((with_reducible refine Blk.new' ?_); focus (simp; done)) | (with_reducible refine Blk.alloc ?_ _) | (with_reducible refine Blk.drew ?_) | (with_reducible refine Blk.drewN ?_ _) | ((with_reducible refine Blk.far ?_ ?_ _); rotate_left; focus (first | omega | (simp; done) | (simp; omega))) | (refine Blk.keep ?_ (by with_reducible assumption)) | (refine Blk.below ?_ (by with_reducible assumption) (by (first | omega | (simp; done) | (simp; omega))))))
  have BK1 : Blk w1 (w.heap.size + 1) 32 #[.slice none 0 0] := by (repeat (first | (with_reducible assumption) | ((with_reducible refine Blk.new' ?_); focus (simp; done)) | (with_reducible refine Blk.alloc ?_ _) | (with_reducible refine Blk.drew ?_) | (with_reducible refine Blk.drewN ?_ _) | ((with_reducible refine Blk.far ?_ ?_ _); rotate_left; focus (first | omega | (simp; done) | (simp; omega))) | (refine Blk.keep ?_ (by with_reducible assumption)) | (refine Blk.below ?_ (by with_reducible assumption) (by (first | omega | (simp; done) | (simp; omega))))))
  have hc0 := BK0.cell; have hf0 := BK0.frozen; have hl0 := BK0.lt; have hc1 := BK1.cell; have hf1 := BK1.frozen; have hl1 := BK1.lt
  go_wp2_with fail
  refine (HOk.out _ (HR.out _ (by (repeat (first | (with_reducible exact Below.refl _ _) | (with_reducible assumption) | ((with_reducible refine Below.setCell ?_ ?_ _); rotate_left; focus (first | omega | (simp; done) | (simp; omega))) | ((with_reducible refine Below.alloc ?_ ?_ _); rotate_left; focus (first | omega | (simp; done) | (simp; omega))) | (with_reducible refine Below.drew ?_) | (with_reducible refine below_drewN ?_ _) | (refine Below.trans ?_ (Below.mono (by with_reducible assumption) (by (first | omega | (simp; done) | (simp; omega)))))))) (by first | omega | (simp; done) | (simp; omega)))).mono ?_
  rintro e w2 ⟨rfl, hb2⟩
  have hz2 := hb2.size; try simp at hz2
  replace BK0 : Blk w2 w.heap.size 32 #[.slice A n c] := by (repeat (first | (with_reducible assumption) | ((with_reducible refine Blk.new' ?_); focus (simp; done)) | (with_reducible refine Blk.alloc ?_ _) | (with_reducible refine Blk.drew ?_) | (with_reducible refine Blk.drewN ?_ _) | ((with_reducible refine Blk.far ?_ ?_ _); rotate_left; focus (first | omega | (simp; done) | (simp; omega))) | (refine Blk.keep ?_ (by with_reducible assumption)) | (refine Blk.below ?_ (by with_reducible assumption) (by (first | omega | (simp; done) | (simp; omega))))))
  replace BK1 : Blk w2 (w.heap.size + 1) 32 #[.slice none 0 0] := by (repeat (first | (with_reducible assumption) | ((with_reducible refine Blk.new' ?_); focus (simp; done)) | (with_reducible refine Blk.alloc ?_ _) | (with_reducible refine Blk.drew ?_) | (with_reducible refine Blk.drewN ?_ _) | ((with_reducible refine Blk.far ?_ ?_ _); rotate_left; focus (first | omega | (simp; done) | (simp; omega))) | (refine Blk.keep ?_ (by with_reducible assumption)) | (refine Blk.below ?_ (by with_reducible assumption) (by (first | omega | (simp; done) | (simp; omega))))))
  have BKO : Blk w2 w1.heap.size 32 #[.slice D n d] := by (repeat (first | (with_reducible assumption) | ((with_reducible refine Blk.new' ?_); focus (simp; done)) | (with_reducible refine Blk.alloc ?_ _) | (with_reducible refine Blk.drew ?_) | (with_reducible refine Blk.drewN ?_ _) | ((with_reducible refine Blk.far ?_ ?_ _); rotate_left; focus (first | omega | (simp; done) | (simp; omega))) | (refine Blk.keep ?_ (by with_reducible assumption)) | (refine Blk.below ?_ (by with_reducible assumption) (by (first | omega | (simp; done) | (simp; omega))))))
  replace hc0 := BK0.cell; replace hf0 := BK0.frozen; replace hl0 := BK0.lt; replace hc1 := BK1.cell; replace hf1 := BK1.frozen; replace hl1 := BK1.lt
  have hco := BKO.cell; have hfo := BKO.frozen; have hlo := BKO.lt
  have G2 := Lib.hid (G.keep (by (repeat (first | (with_reducible exact Below.refl _ _) | (with_reducible assumption) | ((with_reducible refine Below.setCell ?_ ?_ _); rotate_left; focus (first | omega | (simp; done) | (simp; omega))) | ((with_reducible refine Below.alloc ?_ ?_ _); rotate_left; focus (first | omega | (simp; done) | (simp; omega))) | (with_reducible refine Below.drew ?_) | (with_reducible refine below_drewN ?_ _) | (refine Below.trans ?_ (Below.mono (by with_reducible assumption) (by (first | omega | (simp; done) | (simp; omega))))))) : Below w1.heap.size w1 w2))
  clear G
  cases hg : useGood ts now
  · have HN := Lib.hid (Use_bad (id := id) hg)
    have HG := Lib.hid hg
    clear hg
    cases hok : forestOk ts
    all_goals cases hw1 : withinB now 0 1000000000
    all_goals first
      | (exfalso; have hh := HG.out; unfold useGood at hh; rw [hok, hw1] at hh; exact absurd hh (by decide))
      | skip
    all_goals
      have HW1 := Lib.hid hw1
      clear hw1 hok
      go_wp2_with (go_at_call 53; (with_reducible refine (spec_l01In_b HW1.out _).mono ?_); rintro e w' ⟨rfl, rfl⟩)
      refine bodyPost_ret (v := .tuple #[.agg #[.slice D n d], .int .i64 1]) (by simp [results, Try.results25, go_sem, hc1, hf1]) rfl ⟨[.slice D n d], by rw [HN.out.1], ?_, by (repeat (first | (with_reducible exact Below.refl _ _) | (with_reducible assumption) | ((with_reducible refine Below.setCell ?_ ?_ _); rotate_left; focus (first | omega | (simp; done) | (simp; omega))) | ((with_reducible refine Below.alloc ?_ ?_ _); rotate_left; focus (first | omega | (simp; done) | (simp; omega))) | (with_reducible refine Below.drew ?_) | (with_reducible refine below_drewN ?_ _) | (refine Below.trans ?_ (Below.mono (by with_reducible assumption) (by (first | omega | (simp; done) | (simp; omega)))))))⟩
      rw [HN.out.2]
      exact ForestR.own_wide (G2.out.setC (a := ⟨w.heap.size + 1, 0, none⟩) (by simp) _).forest (inR_mono (by first | omega | (simp; done) | (simp; omega)) (by first | omega | (simp; done) | (simp; omega)))
  have HGd := Lib.hid (Use_good (id := id) hg)
  unfold useGood at hg
  simp only [Bool.and_eq_true] at hg
  obtain ⟨hok, hw1⟩ := hg
  have HW1 := Lib.hid hw1; have HK := Lib.hid hok
  clear hw1 hok
  rw [HK.out]
  go_wp2_with (first
    | (go_at_call 53; (with_reducible refine (spec_l01In_b HW1.out _).mono ?_); rintro e w' ⟨rfl, rfl⟩)
    | (go_at_call 32; fail))
  refine (HAt.out id _ (HRs.out _ (by (repeat (first | (with_reducible exact Below.refl _ _) | (with_reducible assumption) | ((with_reducible refine Below.setCell ?_ ?_ _); rotate_left; focus (first | omega | (simp; done) | (simp; omega))) | ((with_reducible refine Below.alloc ?_ ?_ _); rotate_left; focus (first | omega | (simp; done) | (simp; omega))) | (with_reducible refine Below.drew ?_) | (with_reducible refine below_drewN ?_ _) | (refine Below.trans ?_ (Below.mono (by with_reducible assumption) (by (first | omega | (simp; done) | (simp; omega)))))))) (by first | omega | (simp; done) | (simp; omega)))).mono ?_
  rintro e w3 ⟨rfl, hb3⟩
  have hz3 := hb3.size; try simp at hz3
  replace BK0 : Blk w3 w.heap.size 32 #[.slice A n c] := by (repeat (first | (with_reducible assumption) | ((with_reducible refine Blk.new' ?_); focus (simp; done)) | (with_reducible refine Blk.alloc ?_ _) | (with_reducible refine Blk.drew ?_) | (with_reducible refine Blk.drewN ?_ _) | ((with_reducible refine Blk.far ?_ ?_ _); rotate_left; focus (first | omega | (simp; done) | (simp; omega))) | (refine Blk.keep ?_ (by with_reducible assumption)) | (refine Blk.below ?_ (by with_reducible assumption) (by (first | omega | (simp; done) | (simp; omega))))))
  replace BK1 : Blk w3 (w.heap.size + 1) 32 #[.slice none 0 0] := by (repeat (first | (with_reducible assumption) | ((with_reducible refine Blk.new' ?_); focus (simp; done)) | (with_reducible refine Blk.alloc ?_ _) | (with_reducible refine Blk.drew ?_) | (with_reducible refine Blk.drewN ?_ _) | ((with_reducible refine Blk.far ?_ ?_ _); rotate_left; focus (first | omega | (simp; done) | (simp; omega))) | (refine Blk.keep ?_ (by with_reducible assumption)) | (refine Blk.below ?_ (by with_reducible assumption) (by (first | omega | (simp; done) | (simp; omega))))))
  replace BKO : Blk w3 w1.heap.size 32 #[.slice D n d] := by (repeat (first | (with_reducible assumption) | ((with_reducible refine Blk.new' ?_); focus (simp; done)) | (with_reducible refine Blk.alloc ?_ _) | (with_reducible refine Blk.drew ?_) | (with_reducible refine Blk.drewN ?_ _) | ((with_reducible refine Blk.far ?_ ?_ _); rotate_left; focus (first | omega | (simp; done) | (simp; omega))) | (refine Blk.keep ?_ (by with_reducible assumption)) | (refine Blk.below ?_ (by with_reducible assumption) (by (first | omega | (simp; done) | (simp; omega))))))
  replace hc0 := BK0.cell; replace hf0 := BK0.frozen; replace hl0 := BK0.lt; replace hc1 := BK1.cell; replace hf1 := BK1.frozen; replace hl1 := BK1.lt
  replace hco := BKO.cell; replace hfo := BKO.frozen; replace hlo := BKO.lt
  replace G2 := Lib.hid (G2.out.keep hb3)
  by_cases hx : idxT ts id < 0
  · have HN := Lib.hid (use_none (now := now) hx)
    go_wp2
    refine bodyPost_ret (v := .tuple #[.agg #[.slice D n d], .int .i64 2]) (by simp [results, Try.results25, go_sem, hc1, hf1]) rfl ⟨[.slice D n d], by rw [HGd.out.1, HN.out.1], ?_, by (repeat (first | (with_reducible exact Below.refl _ _) | (with_reducible assumption) | ((with_reducible refine Below.setCell ?_ ?_ _); rotate_left; focus (first | omega | (simp; done) | (simp; omega))) | ((with_reducible refine Below.alloc ?_ ?_ _); rotate_left; focus (first | omega | (simp; done) | (simp; omega))) | (with_reducible refine Below.drew ?_) | (with_reducible refine below_drewN ?_ _) | (refine Below.trans ?_ (Below.mono (by with_reducible assumption) (by (first | omega | (simp; done) | (simp; omega)))))))⟩
    rw [HGd.out.2, HN.out.2]
    exact ForestR.own_wide (G2.out.setC (a := ⟨w.heap.size + 1, 0, none⟩) (by simp) _).forest (inR_mono (by first | omega | (simp; done) | (simp; omega)) (by first | omega | (simp; done) | (simp; omega)))
  obtain ⟨i, t, e1, e2, e3⟩ := tok_at (Int.not_lt.1 hx)
  have hi := idxT_small e1
  rw [Hn.out] at hi
  obtain ⟨hu0, hu1⟩ := forest_uses HK.out e2
  have hbw3 : Below w.heap.size w w3 := by (repeat (first | (with_reducible exact Below.refl _ _) | (with_reducible assumption) | ((with_reducible refine Below.setCell ?_ ?_ _); rotate_left; focus (first | omega | (simp; done) | (simp; omega))) | ((with_reducible refine Below.alloc ?_ ?_ _); rotate_left; focus (first | omega | (simp; done) | (simp; omega))) | (with_reducible refine Below.drew ?_) | (with_reducible refine below_drewN ?_ _) | (refine Below.trans ?_ (Below.mono (by with_reducible assumption) (by (first | omega | (simp; done) | (simp; omega)))))))
  obtain ⟨b, off, An, cn, rfl, hab, hnm, ha0, ha1, ha2, ha3, ha4, ha5, ha6⟩ := tok_elem (HRb.out _ hbw3) e2
  clear hbw3
  have hd : decide ((i : Int) < 0) = false := by simp
  cases ho : overB t.Ends now
  rotate_left
  · have HN := Lib.hid (use_late e1 e2 (by unfold lateB; rw [ho]; rfl))
    have HL := Lib.hid ho
    rw [e1] at hx ⊢
    clear e1 e2 e3 ho
    go_wp2_with fail
    refine (spec_l08Over_b HL.out _ _ _).mono ?_
    rintro e w4 ⟨rfl, hb4⟩
    have hz4 := hb4.size; try simp at hz4
    replace BK1 : Blk w4 (w.heap.size + 1) 32 #[.slice none 0 0] := by (repeat (first | (with_reducible assumption) | ((with_reducible refine Blk.new' ?_); focus (simp; done)) | (with_reducible refine Blk.alloc ?_ _) | (with_reducible refine Blk.drew ?_) | (with_reducible refine Blk.drewN ?_ _) | ((with_reducible refine Blk.far ?_ ?_ _); rotate_left; focus (first | omega | (simp; done) | (simp; omega))) | (refine Blk.keep ?_ (by with_reducible assumption)) | (refine Blk.below ?_ (by with_reducible assumption) (by (first | omega | (simp; done) | (simp; omega))))))
    replace BKO : Blk w4 w1.heap.size 32 #[.slice D n d] := by (repeat (first | (with_reducible assumption) | ((with_reducible refine Blk.new' ?_); focus (simp; done)) | (with_reducible refine Blk.alloc ?_ _) | (with_reducible refine Blk.drew ?_) | (with_reducible refine Blk.drewN ?_ _) | ((with_reducible refine Blk.far ?_ ?_ _); rotate_left; focus (first | omega | (simp; done) | (simp; omega))) | (refine Blk.keep ?_ (by with_reducible assumption)) | (refine Blk.below ?_ (by with_reducible assumption) (by (first | omega | (simp; done) | (simp; omega))))))
    replace BK0 : Blk w4 w.heap.size 32 #[.slice (some ⟨b, off, none⟩) n c] := by (repeat (first | (with_reducible assumption) | ((with_reducible refine Blk.new' ?_); focus (simp; done)) | (with_reducible refine Blk.alloc ?_ _) | (with_reducible refine Blk.drew ?_) | (with_reducible refine Blk.drewN ?_ _) | ((with_reducible refine Blk.far ?_ ?_ _); rotate_left; focus (first | omega | (simp; done) | (simp; omega))) | (refine Blk.keep ?_ (by with_reducible assumption)) | (refine Blk.below ?_ (by with_reducible assumption) (by (first | omega | (simp; done) | (simp; omega))))))
    replace hc0 := BK0.cell; replace hf0 := BK0.frozen; replace hl0 := BK0.lt
    replace hc1 := BK1.cell; replace hf1 := BK1.frozen; replace hl1 := BK1.lt
    replace hco := BKO.cell; replace hfo := BKO.frozen; replace hlo := BKO.lt
    have hb34 : Below w3.heap.size w3 w4 := by (repeat (first | (with_reducible exact Below.refl _ _) | (with_reducible assumption) | ((with_reducible refine Below.setCell ?_ ?_ _); rotate_left; focus (first | omega | (simp; done) | (simp; omega))) | ((with_reducible refine Below.alloc ?_ ?_ _); rotate_left; focus (first | omega | (simp; done) | (simp; omega))) | (with_reducible refine Below.drew ?_) | (with_reducible refine below_drewN ?_ _) | (refine Below.trans ?_ (Below.mono (by with_reducible assumption) (by (first | omega | (simp; done) | (simp; omega)))))))
    have hx3 : w4.cell? ⟨b, off + i * 7 + 3, none⟩ = some (.int .i64 t.Made) := (hb34.cell (p := ⟨b, off + i * 7 + 3, none⟩) (by show b < _; omega)).trans ha3
    have G3 := Lib.hid (G2.out.keep hb34)
    go_wp2
    refine bodyPost_ret (v := .tuple #[.agg #[.slice D n d], .int .i64 3]) (by simp [results, Try.results25, go_sem, hc1, hf1]) rfl ⟨[.slice D n d], by rw [HGd.out.1, HN.out.1], ?_, by (repeat (first | (with_reducible exact Below.refl _ _) | (with_reducible assumption) | ((with_reducible refine Below.setCell ?_ ?_ _); rotate_left; focus (first | omega | (simp; done) | (simp; omega))) | ((with_reducible refine Below.alloc ?_ ?_ _); rotate_left; focus (first | omega | (simp; done) | (simp; omega))) | (with_reducible refine Below.drew ?_) | (with_reducible refine below_drewN ?_ _) | (refine Below.trans ?_ (Below.mono (by with_reducible assumption) (by (first | omega | (simp; done) | (simp; omega)))))))⟩
    rw [HGd.out.2, HN.out.2]
    exact ForestR.own_wide (G3.out.setC (a := ⟨w.heap.size + 1, 0, none⟩) (by simp) _).forest (inR_mono (by first | omega | (simp; done) | (simp; omega)) (by first | omega | (simp; done) | (simp; omega)))
  by_cases hmd : now < t.Made
  · have HN := Lib.hid (use_late e1 e2 (by unfold lateB; rw [ho]; simpa using hmd))
    have HL := Lib.hid ho
    rw [e1] at hx ⊢
    clear e1 e2 e3 ho
    go_wp2_with fail
    refine (spec_l08Over_b HL.out _ _ _).mono ?_
    rintro e w4 ⟨rfl, hb4⟩
    have hz4 := hb4.size; try simp at hz4
    replace BK1 : Blk w4 (w.heap.size + 1) 32 #[.slice none 0 0] := by (repeat (first | (with_reducible assumption) | ((with_reducible refine Blk.new' ?_); focus (simp; done)) | (with_reducible refine Blk.alloc ?_ _) | (with_reducible refine Blk.drew ?_) | (with_reducible refine Blk.drewN ?_ _) | ((with_reducible refine Blk.far ?_ ?_ _); rotate_left; focus (first | omega | (simp; done) | (simp; omega))) | (refine Blk.keep ?_ (by with_reducible assumption)) | (refine Blk.below ?_ (by with_reducible assumption) (by (first | omega | (simp; done) | (simp; omega))))))
    replace BKO : Blk w4 w1.heap.size 32 #[.slice D n d] := by (repeat (first | (with_reducible assumption) | ((with_reducible refine Blk.new' ?_); focus (simp; done)) | (with_reducible refine Blk.alloc ?_ _) | (with_reducible refine Blk.drew ?_) | (with_reducible refine Blk.drewN ?_ _) | ((with_reducible refine Blk.far ?_ ?_ _); rotate_left; focus (first | omega | (simp; done) | (simp; omega))) | (refine Blk.keep ?_ (by with_reducible assumption)) | (refine Blk.below ?_ (by with_reducible assumption) (by (first | omega | (simp; done) | (simp; omega))))))
    replace BK0 : Blk w4 w.heap.size 32 #[.slice (some ⟨b, off, none⟩) n c] := by (repeat (first | (with_reducible assumption) | ((with_reducible refine Blk.new' ?_); focus (simp; done)) | (with_reducible refine Blk.alloc ?_ _) | (with_reducible refine Blk.drew ?_) | (with_reducible refine Blk.drewN ?_ _) | ((with_reducible refine Blk.far ?_ ?_ _); rotate_left; focus (first | omega | (simp; done) | (simp; omega))) | (refine Blk.keep ?_ (by with_reducible assumption)) | (refine Blk.below ?_ (by with_reducible assumption) (by (first | omega | (simp; done) | (simp; omega))))))
    replace hc0 := BK0.cell; replace hf0 := BK0.frozen; replace hl0 := BK0.lt
    replace hc1 := BK1.cell; replace hf1 := BK1.frozen; replace hl1 := BK1.lt
    replace hco := BKO.cell; replace hfo := BKO.frozen; replace hlo := BKO.lt
    have hb34 : Below w3.heap.size w3 w4 := by (repeat (first | (with_reducible exact Below.refl _ _) | (with_reducible assumption) | ((with_reducible refine Below.setCell ?_ ?_ _); rotate_left; focus (first | omega | (simp; done) | (simp; omega))) | ((with_reducible refine Below.alloc ?_ ?_ _); rotate_left; focus (first | omega | (simp; done) | (simp; omega))) | (with_reducible refine Below.drew ?_) | (with_reducible refine below_drewN ?_ _) | (refine Below.trans ?_ (Below.mono (by with_reducible assumption) (by (first | omega | (simp; done) | (simp; omega)))))))
    have hx3 : w4.cell? ⟨b, off + i * 7 + 3, none⟩ = some (.int .i64 t.Made) := (hb34.cell (p := ⟨b, off + i * 7 + 3, none⟩) (by show b < _; omega)).trans ha3
    have G3 := Lib.hid (G2.out.keep hb34)
    go_wp2
    refine bodyPost_ret (v := .tuple #[.agg #[.slice D n d], .int .i64 3]) (by simp [results, Try.results25, go_sem, hc1, hf1]) rfl ⟨[.slice D n d], by rw [HGd.out.1, HN.out.1], ?_, by (repeat (first | (with_reducible exact Below.refl _ _) | (with_reducible assumption) | ((with_reducible refine Below.setCell ?_ ?_ _); rotate_left; focus (first | omega | (simp; done) | (simp; omega))) | ((with_reducible refine Below.alloc ?_ ?_ _); rotate_left; focus (first | omega | (simp; done) | (simp; omega))) | (with_reducible refine Below.drew ?_) | (with_reducible refine below_drewN ?_ _) | (refine Below.trans ?_ (Below.mono (by with_reducible assumption) (by (first | omega | (simp; done) | (simp; omega)))))))⟩
    rw [HGd.out.2, HN.out.2]
    exact ForestR.own_wide (G3.out.setC (a := ⟨w.heap.size + 1, 0, none⟩) (by simp) _).forest (inR_mono (by first | omega | (simp; done) | (simp; omega)) (by first | omega | (simp; done) | (simp; omega)))
  have hl : lateB t now = false := by unfold lateB; rw [ho]; simpa using hmd
  have HL := Lib.hid ho
  have HBF := Lib.hid (belowF_yes (findOk_at HK.out e1))
  have HLast := Lib.hid (fun (h : (t.Uses == 1) = true) => use_last e1 e2 hl h)
  have HMore := Lib.hid (fun (h : (t.Uses == 1) = false) (h2 : 1 < t.Uses) => use_more e1 e2 hl h h2)
  have HKeep := Lib.hid (fun (h : (t.Uses == 1) = false) (h2 : t.Uses ≤ 1) => use_keep e1 e2 hl h (Int.not_lt.2 h2))
  have H2 := Lib.hid e2
  rw [e1] at hx ⊢
  clear e1 e2 e3 hl ho
  go_wp2_with fail
  refine (spec_l08Over_b HL.out _ _ _).mono ?_
  rintro e w4 ⟨rfl, hb4⟩
  have hz4 := hb4.size; try simp at hz4
  replace BK1 : Blk w4 (w.heap.size + 1) 32 #[.slice none 0 0] := by (repeat (first | (with_reducible assumption) | ((with_reducible refine Blk.new' ?_); focus (simp; done)) | (with_reducible refine Blk.alloc ?_ _) | (with_reducible refine Blk.drew ?_) | (with_reducible refine Blk.drewN ?_ _) | ((with_reducible refine Blk.far ?_ ?_ _); rotate_left; focus (first | omega | (simp; done) | (simp; omega))) | (refine Blk.keep ?_ (by with_reducible assumption)) | (refine Blk.below ?_ (by with_reducible assumption) (by (first | omega | (simp; done) | (simp; omega))))))
  replace BKO : Blk w4 w1.heap.size 32 #[.slice D n d] := by (repeat (first | (with_reducible assumption) | ((with_reducible refine Blk.new' ?_); focus (simp; done)) | (with_reducible refine Blk.alloc ?_ _) | (with_reducible refine Blk.drew ?_) | (with_reducible refine Blk.drewN ?_ _) | ((with_reducible refine Blk.far ?_ ?_ _); rotate_left; focus (first | omega | (simp; done) | (simp; omega))) | (refine Blk.keep ?_ (by with_reducible assumption)) | (refine Blk.below ?_ (by with_reducible assumption) (by (first | omega | (simp; done) | (simp; omega))))))
  replace BK0 : Blk w4 w.heap.size 32 #[.slice (some ⟨b, off, none⟩) n c] := by (repeat (first | (with_reducible assumption) | ((with_reducible refine Blk.new' ?_); focus (simp; done)) | (with_reducible refine Blk.alloc ?_ _) | (with_reducible refine Blk.drew ?_) | (with_reducible refine Blk.drewN ?_ _) | ((with_reducible refine Blk.far ?_ ?_ _); rotate_left; focus (first | omega | (simp; done) | (simp; omega))) | (refine Blk.keep ?_ (by with_reducible assumption)) | (refine Blk.below ?_ (by with_reducible assumption) (by (first | omega | (simp; done) | (simp; omega))))))
  replace hc0 := BK0.cell; replace hf0 := BK0.frozen; replace hl0 := BK0.lt
  replace hc1 := BK1.cell; replace hf1 := BK1.frozen; replace hl1 := BK1.lt
  replace hco := BKO.cell; replace hfo := BKO.frozen; replace hlo := BKO.lt
  have hb34 : Below w3.heap.size w3 w4 := by (repeat (first | (with_reducible exact Below.refl _ _) | (with_reducible assumption) | ((with_reducible refine Below.setCell ?_ ?_ _); rotate_left; focus (first | omega | (simp; done) | (simp; omega))) | ((with_reducible refine Below.alloc ?_ ?_ _); rotate_left; focus (first | omega | (simp; done) | (simp; omega))) | (with_reducible refine Below.drew ?_) | (with_reducible refine below_drewN ?_ _) | (refine Below.trans ?_ (Below.mono (by with_reducible assumption) (by (first | omega | (simp; done) | (simp; omega)))))))
  have hx3 : w4.cell? ⟨b, off + i * 7 + 3, none⟩ = some (.int .i64 t.Made) := (hb34.cell (p := ⟨b, off + i * 7 + 3, none⟩) (by show b < _; omega)).trans ha3
  have hx6 : w4.cell? ⟨b, off + i * 7 + 6, none⟩ = some (.int .i64 t.Uses) := (hb34.cell (p := ⟨b, off + i * 7 + 6, none⟩) (by show b < _; omega)).trans ha6
  have G3 := Lib.hid (G2.out.keep hb34)
  clear ha0 ha1 ha2 ha3 ha4 ha5 ha6
  have hbw4 : Below w.heap.size w w4 := by (repeat (first | (with_reducible exact Below.refl _ _) | (with_reducible assumption) | ((with_reducible refine Below.setCell ?_ ?_ _); rotate_left; focus (first | omega | (simp; done) | (simp; omega))) | ((with_reducible refine Below.alloc ?_ ?_ _); rotate_left; focus (first | omega | (simp; done) | (simp; omega))) | (with_reducible refine Below.drew ?_) | (with_reducible refine below_drewN ?_ _) | (refine Below.trans ?_ (Below.mono (by with_reducible assumption) (by (first | omega | (simp; done) | (simp; omega)))))))
  cases hu : t.Uses == 1
  rotate_left
  · have HN := Lib.hid (HLast.out hu)
    have hu1 : t.Uses = 1 := by simpa using hu
    go_wp2_with fail
    have hzz := hbw4.size
    go_region_held3 (fun w' => w'.cell? ⟨w.heap.size, 0, none⟩ = some (.slice (some ⟨b, off, none⟩) n c))
      (refine Blk.cell (t := 32) (cs := #[.slice (some ⟨b, off, none⟩) n c]) ?_ 0 <;> (repeat (first | (with_reducible assumption) | ((with_reducible refine Blk.new' ?_); focus (simp; done)) | (with_reducible refine Blk.alloc ?_ _) | (with_reducible refine Blk.drew ?_) | (with_reducible refine Blk.drewN ?_ _) | ((with_reducible refine Blk.far ?_ ?_ _); rotate_left; focus (first | omega | (simp; done) | (simp; omega))) | (refine Blk.keep ?_ (by with_reducible assumption)) | (refine Blk.below ?_ (by with_reducible assumption) (by (first | omega | (simp; done) | (simp; omega)))))))
      (first
      | (go_at_call 51; refine (HBe.out _ (HR.out _ (by (repeat (first | (with_reducible exact Below.refl _ _) | (with_reducible assumption) | ((with_reducible refine Below.setCell ?_ ?_ _); rotate_left; focus (first | omega | (simp; done) | (simp; omega))) | ((with_reducible refine Below.alloc ?_ ?_ _); rotate_left; focus (first | omega | (simp; done) | (simp; omega))) | (with_reducible refine Below.drew ?_) | (with_reducible refine below_drewN ?_ _) | (refine Below.trans ?_ (Below.mono (by with_reducible assumption) (by (first | omega | (simp; done) | (simp; omega)))))))) (by first | omega | (simp; done) | (simp; omega)))).mono ?_; rintro e w5 ⟨v5, rfl, ho5, hb5⟩; obtain ⟨B5, d5, rfl⟩ := SlOwn.form (_root_.id ho5); (have hz5 := hb5.size; try simp at hz5))
      | (go_at_call 47; refine (HLe.out B5 d5 _ (HRs.out _ (by (repeat (first | (with_reducible exact Below.refl _ _) | (with_reducible assumption) | ((with_reducible refine Below.setCell ?_ ?_ _); rotate_left; focus (first | omega | (simp; done) | (simp; omega))) | ((with_reducible refine Below.alloc ?_ ?_ _); rotate_left; focus (first | omega | (simp; done) | (simp; omega))) | (with_reducible refine Below.drew ?_) | (with_reducible refine below_drewN ?_ _) | (refine Below.trans ?_ (Below.mono (by with_reducible assumption) (by (first | omega | (simp; done) | (simp; omega)))))))) (by first | omega | (simp; done) | (simp; omega))) (rd_IntS (SlOwn.rd_in ho5 (fun _ h => h) (Nat.le_refl _))).2.1).mono ?_; rintro e w6 ⟨A6, c6, css6, rfl, G6, hb6⟩; (have hz6 := hb6.size; try simp at hz6); have BX : Blk w6 (w.heap.size + 1) 32 #[.slice none 0 0] := (by (repeat (first | (with_reducible assumption) | ((with_reducible refine Blk.new' ?_); focus (simp; done)) | (with_reducible refine Blk.alloc ?_ _) | (with_reducible refine Blk.drew ?_) | (with_reducible refine Blk.drewN ?_ _) | ((with_reducible refine Blk.far ?_ ?_ _); rotate_left; focus (first | omega | (simp; done) | (simp; omega))) | (refine Blk.keep ?_ (by with_reducible assumption)) | (refine Blk.below ?_ (by with_reducible assumption) (by (first | omega | (simp; done) | (simp; omega))))))); have hcX := BX.cell; have hfX := BX.frozen))
    all_goals
      go_wp2
      refine bodyPost_ret (v := .tuple #[.agg #[.slice A6 (lessT ts (belowF ts id)).length c6], .int .i64 0]) (by simp [results, Try.results25, go_sem, hcX, hfX]) rfl ⟨[.slice A6 (lessT ts (belowF ts id)).length c6], by rw [HGd.out.1, HN.out.1], ?_, by (repeat (first | (with_reducible exact Below.refl _ _) | (with_reducible assumption) | ((with_reducible refine Below.setCell ?_ ?_ _); rotate_left; focus (first | omega | (simp; done) | (simp; omega))) | ((with_reducible refine Below.alloc ?_ ?_ _); rotate_left; focus (first | omega | (simp; done) | (simp; omega))) | (with_reducible refine Below.drew ?_) | (with_reducible refine below_drewN ?_ _) | (refine Below.trans ?_ (Below.mono (by with_reducible assumption) (by (first | omega | (simp; done) | (simp; omega)))))))⟩
      rw [HGd.out.2, HN.out.2, ← HBF.out]
      exact ForestR.own_wide (ForestR.own_off G6.forest (by (repeat (first | (with_reducible exact Out.refl _ _) | (with_reducible assumption) | ((with_reducible refine Out.setCell ?_ ?_ _); rotate_left; focus (first | (refine Or.inl ?_; (first | omega | (simp; done) | (simp; omega))) | (refine Or.inr ?_; (first | omega | (simp; done) | (simp; omega))))) | (with_reducible refine Out.alloc ?_ _) | (with_reducible refine Out.drew ?_) | (with_reducible refine Out.drewN ?_ _) | (refine Out.step ?_ (by with_reducible assumption)))))) (inR_mono (by first | omega | (simp; done) | (simp; omega)) (by first | omega | (simp; done) | (simp; omega)))
  have hu2 : ¬ t.Uses = 1 := by simpa using hu
  obtain ⟨g, rfl⟩ := G3.out.some_addr (by omega)
  obtain ⟨D3, d3, hcs, hg1', hg2', hat⟩ := grow_tok G3.out H2.out
  have HCs := Lib.hid hcs
  have hqf := (hat 6 _ rfl).2
  have hqc := (hat 6 _ rfl).1
  clear hcs hat
  have hgw : w.heap.size ≤ g := by (have := hg1'; simp at this; omega)
  by_cases hmr : 1 < t.Uses
  · have HN := Lib.hid (HMore.out hu hmr)
    have hwr : IntKind.i64.wrap (t.Uses - 1) = t.Uses - 1 := IntWalk.i64_in _ (by omega)
    have G5 := Lib.hid (Grow.keep (G3.out.set H2.out HCs.out (k := 6) (by decide) (.int .i64 (t.Uses - 1)) (x' := withUses t (t.Uses - 1)) (fun _ _ h => own_cells (t' := withUses t (t.Uses - 1)) h rfl rfl)) (Below.drew (Below.refl _ (w4.setCell ⟨g, i * 7 + 6, none⟩ (.int .i64 (t.Uses - 1))))))
    have hbw5 : Below w.heap.size w ((w4.setCell ⟨g, i * 7 + 6, none⟩ (.int .i64 (t.Uses - 1))).drew) := by (repeat (first | (with_reducible exact Below.refl _ _) | (with_reducible assumption) | ((with_reducible refine Below.setCell ?_ ?_ _); rotate_left; focus (first | omega | (simp; done) | (simp; omega))) | ((with_reducible refine Below.alloc ?_ ?_ _); rotate_left; focus (first | omega | (simp; done) | (simp; omega))) | (with_reducible refine Below.drew ?_) | (with_reducible refine below_drewN ?_ _) | (refine Below.trans ?_ (Below.mono (by with_reducible assumption) (by (first | omega | (simp; done) | (simp; omega)))))))
    have hbz5 := hbw5.size
    go_wp2_with fail
    go_region_law (fail)
    all_goals
      try rw [hwr]
      clear hwr
      go_wp2
      refine bodyPost_ret (v := .tuple #[.agg #[.slice (some ⟨g, 0, none⟩) n d], .int .i64 0]) (by simp [results, Try.results25, go_sem, hc1, hf1, hco, hfo]) rfl ⟨[.slice (some ⟨g, 0, none⟩) n d], by rw [HGd.out.1, HN.out.1], ?_, by (repeat (first | (with_reducible exact Below.refl _ _) | (with_reducible assumption) | ((with_reducible refine Below.setCell ?_ ?_ _); rotate_left; focus (first | omega | (simp; done) | (simp; omega))) | ((with_reducible refine Below.alloc ?_ ?_ _); rotate_left; focus (first | omega | (simp; done) | (simp; omega))) | (with_reducible refine Below.drew ?_) | (with_reducible refine below_drewN ?_ _) | (refine Below.trans ?_ (Below.mono (by with_reducible assumption) (by (first | omega | (simp; done) | (simp; omega)))))))⟩
      rw [HGd.out.2, HN.out.2]
      exact ForestR.own_wide (G5.out.setC (a := ⟨w.heap.size + 1, 0, none⟩) (by simp) _).forest (inR_mono (by first | omega | (simp; done) | (simp; omega)) (by first | omega | (simp; done) | (simp; omega)))
  · have HN := Lib.hid (HKeep.out hu (Int.not_lt.1 hmr))
    go_wp2
    refine bodyPost_ret (v := .tuple #[.agg #[.slice (some ⟨g, 0, none⟩) n d], .int .i64 0]) (by simp [results, Try.results25, go_sem, hc1, hf1, hco, hfo]) rfl ⟨[.slice (some ⟨g, 0, none⟩) n d], by rw [HGd.out.1, HN.out.1], ?_, by (repeat (first | (with_reducible exact Below.refl _ _) | (with_reducible assumption) | ((with_reducible refine Below.setCell ?_ ?_ _); rotate_left; focus (first | omega | (simp; done) | (simp; omega))) | ((with_reducible refine Below.alloc ?_ ?_ _); rotate_left; focus (first | omega | (simp; done) | (simp; omega))) | (with_reducible refine Below.drew ?_) | (with_reducible refine below_drewN ?_ _) | (refine Below.trans ?_ (Below.mono (by with_reducible assumption) (by (first | omega | (simp; done) | (simp; omega)))))))⟩
    rw [HGd.out.2, HN.out.2]
    exact ForestR.own_wide (G3.out.setC (a := ⟨w.heap.size + 1, 0, none⟩) (by simp) _).forest (inR_mono (by first | omega | (simp; done) | (simp; omega)) (by first | omega | (simp; done) | (simp; omega)))
end Go.Proofs.Ytpabhahfgadagaa

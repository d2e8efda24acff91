/- RevokeToken, the reference's side. -/
import Derived.Test.YtpabhahfgadagaaPair
import Derived.Test.YtpabhahfgadagaaBelow
import Derived.Test.YtpabhahfgadagaaForestL
set_option linter.unusedSimpArgs false
set_option linter.unusedVariables false
namespace Go.Proofs.Ytpabhahfgadagaa
open Go.RowKit
set_option maxHeartbeats 3200000 in
theorem spec_RevokeTokenL (cs : List Value) (f : Forest) (id : Int) (w : World) (h : ForestR.Rd w w.heap.size cs f) (hm : ForestR.sz f ≤ 1048576) :
    Calls Try.prog 23 #[.agg cs.toArray, .int .i64 id] w fun e w' => ∃ cs' v, e = .returned (.tuple #[.agg cs'.toArray, v]) ∧ Pair w' w.heap.size cs' ⟨revT f.Tokens id⟩ v (revI f.Tokens id) ∧ Below w.heap.size w w' := by
  obtain ⟨v0, rfl, q0⟩ := rd_Forest (_root_.id h)
  obtain ⟨A, c, rfl⟩ := q0.form
  have HBe := Lib.hid (fun (w' : World) (h : ForestR.Rd w' w'.heap.size [.slice A f.Tokens.length c] f) => spec_BelowL _ f id w' h hm)
  have HR := Lib.hid (fun (w' : World) (hb : Below w.heap.size w w') (hz : w.heap.size ≤ w'.heap.size) => ForestR.rd_keep h hb hz)
  have HRs := Lib.hid (fun (w' : World) (hb : Below w.heap.size w w') (hz : w.heap.size ≤ w'.heap.size) => q0.keep hb hz)
  rw [sz_Forest] at hm
  have hml : f.Tokens.length ≤ 1048576 := Nat.le_trans (Nat.le_add_right _ _) hm
  have HCl := Lib.hid (fun (w' : World) (h : SlRd TokenR w' w'.heap.size (.slice A f.Tokens.length c) f.Tokens) => spec_l08Copy A c f.Tokens w' h hm)
  have hbl := belowF_len f.Tokens id
  have HLe := Lib.hid (fun (Ag : Option Addr) (cg : Nat) (w' : World) (h : SlRd TokenR w' w'.heap.size (.slice A f.Tokens.length c) f.Tokens) (hg : Reads w' w'.heap.size Ag ((belowF f.Tokens id).map intV)) => spec_l08Less A c f.Tokens Ag cg (belowF f.Tokens id) w' h hm hg (by omega))
  clear h q0 hm
  generalize hT : f.Tokens = ts at *
  clear hT
  have HN := Lib.hid (fun (h : belowF ts id = []) => rev_none h)
  have HS := Lib.hid (fun (h : 0 < (belowF ts id).length) => rev_some h)
  generalize hn : ts.length = n at *
  generalize hys : belowF ts id = ys at *
  generalize hk : ys.length = k at *
  have HK := Lib.hid hk
  clear hn hys hk
  go_enter Try.func23, Try.ntmps23
  go_wp2_with fail
  refine (HBe.out _ (HR.out _ (by (repeat (first | (with_reducible exact Below.refl _ _) | (with_reducible assumption) | ((with_reducible refine Below.setCell ?_ ?_ _); rotate_left; focus (first | omega | (simp; done) | (simp; omega))) | ((with_reducible refine Below.alloc ?_ ?_ _); rotate_left; focus (first | omega | (simp; done) | (simp; omega))) | (with_reducible refine Below.drew ?_) | (with_reducible refine below_drewN ?_ _) | (refine Below.trans ?_ (Below.mono (by with_reducible assumption) (by (first | omega | (simp; done) | (simp; omega)))))))) (by first | omega | (simp; done) | (simp; omega)))).mono ?_
  rintro e w1 ⟨v, rfl, ho, hb1⟩
  have hz1 := hb1.size; try simp at hz1
  obtain ⟨B, d, rfl⟩ := SlOwn.form (_root_.id ho)
  have HO := Lib.hid ho
  clear ho
  rw [HK.out]
  have BK0 : Blk w1 w.heap.size 32 #[.slice A n c] := by (repeat (first | (with_reducible assumption) | ((with_reducible refine Blk.new' ?_); focus (simp; done)) | (with_reducible refine Blk.alloc ?_ _) | (with_reducible refine Blk.drew ?_) | (with_reducible refine Blk.drewN ?_ _) | ((with_reducible refine Blk.far ?_ ?_ _); rotate_left; focus (first | omega | (simp; done) | (simp; omega))) | (refine Blk.keep ?_ (by with_reducible assumption)) | (refine Blk.below ?_ (by with_reducible assumption) (by (first | omega | (simp; done) | (simp; omega))))))
  have BK1 : Blk w1 (w.heap.size + 1) 32 #[.slice none 0 0] := by (repeat (first | (with_reducible assumption) | ((with_reducible refine Blk.new' ?_); focus (simp; done)) | (with_reducible refine Blk.alloc ?_ _) | (with_reducible refine Blk.drew ?_) | (with_reducible refine Blk.drewN ?_ _) | ((with_reducible refine Blk.far ?_ ?_ _); rotate_left; focus (first | omega | (simp; done) | (simp; omega))) | (refine Blk.keep ?_ (by with_reducible assumption)) | (refine Blk.below ?_ (by with_reducible assumption) (by (first | omega | (simp; done) | (simp; omega))))))
  have hc0 := BK0.cell; have hc1 := BK1.cell; have hf1 := BK1.frozen
  by_cases hz : k = 0
  · have HD := Lib.hid (HN.out (List.length_eq_zero_iff.1 (by rw [HK.out]; exact hz)))
    subst hz
    go_wp2_with fail
    refine (HCl.out _ (HRs.out _ (by (repeat (first | (with_reducible exact Below.refl _ _) | (with_reducible assumption) | ((with_reducible refine Below.setCell ?_ ?_ _); rotate_left; focus (first | omega | (simp; done) | (simp; omega))) | ((with_reducible refine Below.alloc ?_ ?_ _); rotate_left; focus (first | omega | (simp; done) | (simp; omega))) | (with_reducible refine Below.drew ?_) | (with_reducible refine below_drewN ?_ _) | (refine Below.trans ?_ (Below.mono (by with_reducible assumption) (by (first | omega | (simp; done) | (simp; omega)))))))) (by first | omega | (simp; done) | (simp; omega)))).mono ?_
    rintro e w2 ⟨D, d2, css, rfl, G, hb2⟩
    have hz2 := hb2.size; try simp at hz2
    have G0 := Lib.hid G
    clear G
    replace BK1 : Blk w2 (w.heap.size + 1) 32 #[.slice none 0 0] := by (repeat (first | (with_reducible assumption) | ((with_reducible refine Blk.new' ?_); focus (simp; done)) | (with_reducible refine Blk.alloc ?_ _) | (with_reducible refine Blk.drew ?_) | (with_reducible refine Blk.drewN ?_ _) | ((with_reducible refine Blk.far ?_ ?_ _); rotate_left; focus (first | omega | (simp; done) | (simp; omega))) | (refine Blk.keep ?_ (by with_reducible assumption)) | (refine Blk.below ?_ (by with_reducible assumption) (by (first | omega | (simp; done) | (simp; omega))))))
    replace hc1 := BK1.cell; replace hf1 := BK1.frozen
    go_wp2
    refine bodyPost_ret (v := .tuple #[.agg #[.slice D n d2], .slice none 0 0]) (by simp [results, Try.results23, go_sem, hc1, hf1]) rfl ⟨[.slice D n d2], .slice none 0 0, rfl, ?_, by (repeat (first | (with_reducible exact Below.refl _ _) | (with_reducible assumption) | ((with_reducible refine Below.setCell ?_ ?_ _); rotate_left; focus (first | omega | (simp; done) | (simp; omega))) | ((with_reducible refine Below.alloc ?_ ?_ _); rotate_left; focus (first | omega | (simp; done) | (simp; omega))) | (with_reducible refine Below.drew ?_) | (with_reducible refine below_drewN ?_ _) | (refine Below.trans ?_ (Below.mono (by with_reducible assumption) (by (first | omega | (simp; done) | (simp; omega)))))))⟩
    rw [HD.out.1, HD.out.2]
    exact Grow.pair G0.out (by (repeat (first | (with_reducible exact Out.refl _ _) | (with_reducible assumption) | ((with_reducible refine Out.setCell ?_ ?_ _); rotate_left; focus (first | (refine Or.inl ?_; (first | omega | (simp; done) | (simp; omega))) | (refine Or.inr ?_; (first | omega | (simp; done) | (simp; omega))))) | (with_reducible refine Out.alloc ?_ _) | (with_reducible refine Out.drew ?_) | (with_reducible refine Out.drewN ?_ _) | (refine Out.step ?_ (by with_reducible assumption))))) (by first | omega | (simp; done) | (simp; omega)) (by first | omega | (simp; done) | (simp; omega))
  have HD := Lib.hid (HS.out (by omega))
  have hzd : decide ((k : Int) = 0) = false := by simp; omega
  have hzb : ((k : Int) == 0) = false := by simp; omega
  have HRg : Hid (Reads w1 w1.heap.size B (ys.map intV)) := Lib.hid (rd_IntS (SlOwn.rd_in HO.out (fun _ h => h) (Nat.le_refl _))).2.1
  go_wp2_with fail
  refine (HLe.out B d _ (HRs.out _ (by (repeat (first | (with_reducible exact Below.refl _ _) | (with_reducible assumption) | ((with_reducible refine Below.setCell ?_ ?_ _); rotate_left; focus (first | omega | (simp; done) | (simp; omega))) | ((with_reducible refine Below.alloc ?_ ?_ _); rotate_left; focus (first | omega | (simp; done) | (simp; omega))) | (with_reducible refine Below.drew ?_) | (with_reducible refine below_drewN ?_ _) | (refine Below.trans ?_ (Below.mono (by with_reducible assumption) (by (first | omega | (simp; done) | (simp; omega)))))))) (by first | omega | (simp; done) | (simp; omega))) HRg.out).mono ?_
  rintro e w2 ⟨A1, c1, css, rfl, G, hb2⟩
  have hz2 := hb2.size; try simp at hz2
  have G0 := Lib.hid G
  clear G
  replace BK1 : Blk w2 (w.heap.size + 1) 32 #[.slice none 0 0] := by (repeat (first | (with_reducible assumption) | ((with_reducible refine Blk.new' ?_); focus (simp; done)) | (with_reducible refine Blk.alloc ?_ _) | (with_reducible refine Blk.drew ?_) | (with_reducible refine Blk.drewN ?_ _) | ((with_reducible refine Blk.far ?_ ?_ _); rotate_left; focus (first | omega | (simp; done) | (simp; omega))) | (refine Blk.keep ?_ (by with_reducible assumption)) | (refine Blk.below ?_ (by with_reducible assumption) (by (first | omega | (simp; done) | (simp; omega))))))
  replace hc1 := BK1.cell; replace hf1 := BK1.frozen
  go_wp2
  refine bodyPost_ret (v := .tuple #[.agg #[.slice A1 (lessT ts ys).length c1], .slice B k d]) (by simp [results, Try.results23, go_sem, hc1, hf1]) rfl ⟨[.slice A1 (lessT ts ys).length c1], .slice B k d, rfl, ?_, by (repeat (first | (with_reducible exact Below.refl _ _) | (with_reducible assumption) | ((with_reducible refine Below.setCell ?_ ?_ _); rotate_left; focus (first | omega | (simp; done) | (simp; omega))) | ((with_reducible refine Below.alloc ?_ ?_ _); rotate_left; focus (first | omega | (simp; done) | (simp; omega))) | (with_reducible refine Below.drew ?_) | (with_reducible refine below_drewN ?_ _) | (refine Below.trans ?_ (Below.mono (by with_reducible assumption) (by (first | omega | (simp; done) | (simp; omega)))))))⟩
  rw [HD.out.1, HD.out.2]
  have hO := HO.out
  rw [HK.out] at hO
  exact Pair.two G0.out.forest (SlOwn.off hO (by (repeat (first | (with_reducible exact Out.refl _ _) | (with_reducible assumption) | ((with_reducible refine Out.setCell ?_ ?_ _); rotate_left; focus (first | (refine Or.inl ?_; (first | omega | (simp; done) | (simp; omega))) | (refine Or.inr ?_; (first | omega | (simp; done) | (simp; omega))))) | (with_reducible refine Out.alloc ?_ _) | (with_reducible refine Out.drew ?_) | (with_reducible refine Out.drewN ?_ _) | (refine Out.step ?_ (by with_reducible assumption)))) : Out (Off _ _) w1 w2)) (by (repeat (first | (with_reducible exact Out.refl _ _) | (with_reducible assumption) | ((with_reducible refine Out.setCell ?_ ?_ _); rotate_left; focus (first | (refine Or.inl ?_; (first | omega | (simp; done) | (simp; omega))) | (refine Or.inr ?_; (first | omega | (simp; done) | (simp; omega))))) | (with_reducible refine Out.alloc ?_ _) | (with_reducible refine Out.drew ?_) | (with_reducible refine Out.drewN ?_ _) | (refine Out.step ?_ (by with_reducible assumption))))) (by (repeat (first | (with_reducible exact Out.refl _ _) | (with_reducible assumption) | ((with_reducible refine Out.setCell ?_ ?_ _); rotate_left; focus (first | (refine Or.inl ?_; (first | omega | (simp; done) | (simp; omega))) | (refine Or.inr ?_; (first | omega | (simp; done) | (simp; omega))))) | (with_reducible refine Out.alloc ?_ _) | (with_reducible refine Out.drew ?_) | (with_reducible refine Out.drewN ?_ _) | (refine Out.step ?_ (by with_reducible assumption))))) (by first | omega | (simp; done) | (simp; omega)) (by first | omega | (simp; done) | (simp; omega)) (by first | omega | (simp; done) | (simp; omega)) (by first | omega | (simp; done) | (simp; omega)) (by first | omega | (simp; done) | (simp; omega))
end Go.Proofs.Ytpabhahfgadagaa

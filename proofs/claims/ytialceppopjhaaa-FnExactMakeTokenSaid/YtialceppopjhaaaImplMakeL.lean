/- MakeToken of the program. -/
import Derived.Test.YtialceppopjhaaaImplMake
set_option linter.unusedSimpArgs false
set_option linter.unusedVariables false
namespace Go.Proofs.Ytialceppopjhaaa
open Go.RowKit
set_option maxHeartbeats 1600000 in
theorem impl_MakeTokenL (cs : List Value) (f : Forest) (ct : List Value) (t : Token) (w : World) (h : ForestR.Rd w w.heap.size cs f) (h2 : TokenR.Rd w w.heap.size ct t) (hm : ForestR.sz f ≤ 1048576) (hm2 : TokenR.sz t ≤ 1048576) :
    Calls Try.prog 22 #[.agg cs.toArray, .agg ct.toArray] w fun e w' => ∃ cs', e = .returned (.tuple #[.agg cs'.toArray, .int .i64 (MakeC f.Tokens t)]) ∧ ForestR.Own w' (InR w.heap.size w'.heap.size) cs' ⟨MakeT f.Tokens t⟩ ∧ Below w.heap.size w w' := by
  obtain ⟨v0, rfl, q0⟩ := rd_Forest (_root_.id h)
  obtain ⟨A0, c0, rfl⟩ := q0.form
  obtain ⟨v1, rfl, q1⟩ := rd_Token (_root_.id h2)
  obtain ⟨At, c1, rfl⟩ := q1.form
  obtain ⟨-, hnr, -, -, hns⟩ := rd_StringS q1
  have HNR := Lib.hid (fun (w' : World) (hb : Below w.heap.size w w') (hz : w.heap.size ≤ w'.heap.size) => hnr.keep hb hz)
  have hnl : t.Names.length ≤ 1048576 := by rw [sz_Token, sz_StringS] at hm2; omega
  have HOk := Lib.hid (fun (w' : World) (h : ForestR.Rd w' w'.heap.size [.slice A0 f.Tokens.length c0] f) => impl_isForestL _ f w' h hm)
  have HR := Lib.hid (fun (w' : World) (hb : Below w.heap.size w w') (hz : w.heap.size ≤ w'.heap.size) => ForestR.rd_keep h hb hz)
  have HRs := Lib.hid (fun (w' : World) (hb : Below w.heap.size w w') (hz : w.heap.size ≤ w'.heap.size) => q0.keep hb hz)
  rw [sz_Forest] at hm
  have HCl := Lib.hid (fun (w' : World) (h : SlRd TokenR w' w'.heap.size (.slice A0 f.Tokens.length c0) f.Tokens) => impl_cloneForest A0 c0 f.Tokens w' h hm)
  have HMk := Lib.hid (fun (a) (w' : World) (h : SlRd TokenR w' w'.heap.size (.slice A0 f.Tokens.length c0) f.Tokens) (b : Reads w' w'.heap.size At (t.Names.map strV)) => impl_makeToken A0 c0 f.Tokens At c1 t w' h hm a b hns hnl)
  clear h h2 q0 q1 hm hm2 hnr hns hnl
  generalize hT : f.Tokens = ts at *
  clear hT
  generalize hn : ts.length = n at *
  go_enter Try.func22, Try.ntmps22
  go_wp2_with fail
  refine (HOk.out _ (HR.out _ (by (repeat (first | (with_reducible exact Below.refl _ _) | (with_reducible assumption) | ((with_reducible refine Below.setCell ?_ ?_ _); rotate_left; focus (first | omega | (simp; done) | (simp; omega))) | ((with_reducible refine Below.alloc ?_ ?_ _); rotate_left; focus (first | omega | (simp; done) | (simp; omega))) | (with_reducible refine Below.drew ?_) | (with_reducible refine below_drewN ?_ _) | (refine Below.trans ?_ (Below.mono (by with_reducible assumption) (by (first | omega | (simp; done) | (simp; omega)))))))) (by first | omega | (simp; done) | (simp; omega)))).mono ?_
  rintro e w1 ⟨rfl, hb1⟩
  have hz1 := hb1.size; try simp at hz1
  have BK0 : Blk w1 w.heap.size 26 #[.slice A0 n c0] := by (repeat (first | (with_reducible assumption) | ((with_reducible refine Blk.new' ?_); focus (simp; done)) | (with_reducible refine Blk.alloc ?_ _) | (with_reducible refine Blk.drew ?_) | (with_reducible refine Blk.drewN ?_ _) | ((with_reducible refine Blk.far ?_ ?_ _); rotate_left; focus (first | omega | (simp; done) | (simp; omega))) | (refine Blk.keep ?_ (by with_reducible assumption)) | (refine Blk.below ?_ (by with_reducible assumption) (by (first | omega | (simp; done) | (simp; omega))))))
  have BKT : Blk w1 (w.heap.size + 1) 35 #[.int .i64 t.Id, .int .i64 t.Parent, .slice At t.Names.length c1, .int .i64 t.Made, .int .i64 t.Ends, .int .i64 t.Limit, .int .i64 t.Uses] := by (repeat (first | (with_reducible assumption) | ((with_reducible refine Blk.new' ?_); focus (simp; done)) | (with_reducible refine Blk.alloc ?_ _) | (with_reducible refine Blk.drew ?_) | (with_reducible refine Blk.drewN ?_ _) | ((with_reducible refine Blk.far ?_ ?_ _); rotate_left; focus (first | omega | (simp; done) | (simp; omega))) | (refine Blk.keep ?_ (by with_reducible assumption)) | (refine Blk.below ?_ (by with_reducible assumption) (by (first | omega | (simp; done) | (simp; omega))))))
  have BK1 : Blk w1 (w.heap.size + 1 + 1) 26 #[.slice none 0 0] := by (repeat (first | (with_reducible assumption) | ((with_reducible refine Blk.new' ?_); focus (simp; done)) | (with_reducible refine Blk.alloc ?_ _) | (with_reducible refine Blk.drew ?_) | (with_reducible refine Blk.drewN ?_ _) | ((with_reducible refine Blk.far ?_ ?_ _); rotate_left; focus (first | omega | (simp; done) | (simp; omega))) | (refine Blk.keep ?_ (by with_reducible assumption)) | (refine Blk.below ?_ (by with_reducible assumption) (by (first | omega | (simp; done) | (simp; omega))))))
  have hc0 := BK0.cell; have hcT := BKT.cell; have hc1 := BK1.cell; have hf1 := BK1.frozen
  cases hok : forestOk ts
  · have HN := Lib.hid (Make_bad (t := t) hok)
    clear hok
    go_wp2_with fail
    refine (HCl.out _ (HRs.out _ (by (repeat (first | (with_reducible exact Below.refl _ _) | (with_reducible assumption) | ((with_reducible refine Below.setCell ?_ ?_ _); rotate_left; focus (first | omega | (simp; done) | (simp; omega))) | ((with_reducible refine Below.alloc ?_ ?_ _); rotate_left; focus (first | omega | (simp; done) | (simp; omega))) | (with_reducible refine Below.drew ?_) | (with_reducible refine below_drewN ?_ _) | (refine Below.trans ?_ (Below.mono (by with_reducible assumption) (by (first | omega | (simp; done) | (simp; omega)))))))) (by first | omega | (simp; done) | (simp; omega)))).mono ?_
    rintro e w2 ⟨D, d, css, rfl, G, hb2⟩
    have hz2 := hb2.size; try simp at hz2
    have G0 := Lib.hid G
    clear G
    replace BK1 := BK1.keep hb2
    replace hc1 := BK1.cell; replace hf1 := BK1.frozen
    go_wp2
    refine bodyPost_ret (v := .tuple #[.agg #[.slice D n d], .int .i64 1]) (by simp [results, Try.results22, go_sem, hc1, hf1]) rfl ⟨[.slice D n d], by rw [HN.out.1], ?_, by (repeat (first | (with_reducible exact Below.refl _ _) | (with_reducible assumption) | ((with_reducible refine Below.setCell ?_ ?_ _); rotate_left; focus (first | omega | (simp; done) | (simp; omega))) | ((with_reducible refine Below.alloc ?_ ?_ _); rotate_left; focus (first | omega | (simp; done) | (simp; omega))) | (with_reducible refine Below.drew ?_) | (with_reducible refine below_drewN ?_ _) | (refine Below.trans ?_ (Below.mono (by with_reducible assumption) (by (first | omega | (simp; done) | (simp; omega)))))))⟩
    rw [HN.out.2]
    exact ForestR.own_wide (ForestR.own_off G0.out.forest (by (repeat (first | (with_reducible exact Out.refl _ _) | (with_reducible assumption) | ((with_reducible refine Out.setCell ?_ ?_ _); rotate_left; focus (first | (refine Or.inl ?_; (first | omega | (simp; done) | (simp; omega))) | (refine Or.inr ?_; (first | omega | (simp; done) | (simp; omega))))) | (with_reducible refine Out.alloc ?_ _) | (with_reducible refine Out.drew ?_) | (with_reducible refine Out.drewN ?_ _) | (refine Out.step ?_ (by with_reducible assumption)))))) (inR_mono (by first | omega | (simp; done) | (simp; omega)) (by first | omega | (simp; done) | (simp; omega)))
  have HN := Lib.hid (Make_good (t := t) hok)
  go_wp2_with fail
  refine (HMk.out hok _ (HRs.out _ (by (repeat (first | (with_reducible exact Below.refl _ _) | (with_reducible assumption) | ((with_reducible refine Below.setCell ?_ ?_ _); rotate_left; focus (first | omega | (simp; done) | (simp; omega))) | ((with_reducible refine Below.alloc ?_ ?_ _); rotate_left; focus (first | omega | (simp; done) | (simp; omega))) | (with_reducible refine Below.drew ?_) | (with_reducible refine below_drewN ?_ _) | (refine Below.trans ?_ (Below.mono (by with_reducible assumption) (by (first | omega | (simp; done) | (simp; omega)))))))) (by first | omega | (simp; done) | (simp; omega))) (HNR.out _ (by (repeat (first | (with_reducible exact Below.refl _ _) | (with_reducible assumption) | ((with_reducible refine Below.setCell ?_ ?_ _); rotate_left; focus (first | omega | (simp; done) | (simp; omega))) | ((with_reducible refine Below.alloc ?_ ?_ _); rotate_left; focus (first | omega | (simp; done) | (simp; omega))) | (with_reducible refine Below.drew ?_) | (with_reducible refine below_drewN ?_ _) | (refine Below.trans ?_ (Below.mono (by with_reducible assumption) (by (first | omega | (simp; done) | (simp; omega)))))))) (by first | omega | (simp; done) | (simp; omega)))).mono ?_
  rintro e w2 ⟨cs2, rfl, ho2, hb2⟩
  obtain ⟨v2, _, rfl, p2, -⟩ := own_Forest (_root_.id ho2)
  obtain ⟨D, d, rfl⟩ := p2.form
  have hz2 := hb2.size; try simp at hz2
  replace BK1 := BK1.keep hb2
  replace hc1 := BK1.cell; replace hf1 := BK1.frozen
  go_wp2
  refine bodyPost_ret (v := .tuple #[.agg #[.slice D (makeT ts t).length d], .int .i64 (makeC ts t)]) (by simp [results, Try.results22, go_sem, hc1, hf1]) rfl ⟨[.slice D (makeT ts t).length d], by rw [HN.out.1], ?_, by (repeat (first | (with_reducible exact Below.refl _ _) | (with_reducible assumption) | ((with_reducible refine Below.setCell ?_ ?_ _); rotate_left; focus (first | omega | (simp; done) | (simp; omega))) | ((with_reducible refine Below.alloc ?_ ?_ _); rotate_left; focus (first | omega | (simp; done) | (simp; omega))) | (with_reducible refine Below.drew ?_) | (with_reducible refine below_drewN ?_ _) | (refine Below.trans ?_ (Below.mono (by with_reducible assumption) (by (first | omega | (simp; done) | (simp; omega)))))))⟩
  rw [HN.out.2]
  exact ForestR.own_wide (ForestR.own_off ho2 (by (repeat (first | (with_reducible exact Out.refl _ _) | (with_reducible assumption) | ((with_reducible refine Out.setCell ?_ ?_ _); rotate_left; focus (first | (refine Or.inl ?_; (first | omega | (simp; done) | (simp; omega))) | (refine Or.inr ?_; (first | omega | (simp; done) | (simp; omega))))) | (with_reducible refine Out.alloc ?_ _) | (with_reducible refine Out.drew ?_) | (with_reducible refine Out.drewN ?_ _) | (refine Out.step ?_ (by with_reducible assumption)))))) (inR_mono (by first | omega | (simp; done) | (simp; omega)) (by first | omega | (simp; done) | (simp; omega)))
end Go.Proofs.Ytialceppopjhaaa

/- AddLease of the program, as the law asks. -/
import Derived.Test.YtbfnkfaagmjfnaaDoorAddImpl
set_option linter.unusedSimpArgs false
set_option linter.unusedVariables false
set_option maxRecDepth 20000
namespace Go.Proofs.YtbfnkfaagmjfnaaDoor
open Go.RowKit
theorem addL_paths {ls : List Lease} {l : Lease} (h : ∀ x ∈ ls, x.Path.size ≤ 9223372036854775807) (hs : l.Path.size ≤ 9223372036854775807) : ∀ x ∈ addL ls l, x.Path.size ≤ 9223372036854775807 := by
  unfold addL
  cases addOk ls l
  · exact h
  · intro x hx
    rcases List.mem_append.1 hx with hx | hx
    · exact h x hx
    · rw [List.mem_singleton.1 hx]; exact hs
set_option maxHeartbeats 3200000 in
theorem impl_AddLeaseL (cs : List Value) (f : Book) (cl : List Value) (l : Lease) (w : World) (h : BookR.Rd w w.heap.size cs f) (h2 : LeaseR.Rd w w.heap.size cl l) (hm : BookR.sz f ≤ 1048576) (hm2 : LeaseR.sz l ≤ 1048576) (hmx : MaxLenInt w) :
    Calls Tryd.prog 26 #[.agg cs.toArray, .agg cl.toArray] w fun e w' => ∃ cs', e = .returned (.tuple #[.agg cs'.toArray, .bool (addOk f.Leases l)]) ∧ BookR.Own w' (InR w.heap.size w'.heap.size) cs' (⟨addL f.Leases l⟩ : Book) ∧ Below w.heap.size w w' := by
  obtain ⟨v0, rfl, q0⟩ := rd_Book (_root_.id h)
  obtain ⟨A0, c0, rfl⟩ := q0.form
  obtain ⟨rfl, hs⟩ := rd_Lease h2
  have HM := Lib.hid (fun (w' : World) (hb : Below w.heap.size w w') => hmx.keep hb)
  have HOk := Lib.hid (fun (w' : World) (h : BookR.Rd w' w'.heap.size [.slice A0 f.Leases.length c0] f) (hx : MaxLenInt w') => impl_isBookL _ f w' h hm hx)
  have HR := Lib.hid (fun (w' : World) (hb : Below w.heap.size w w') (hz : w.heap.size ≤ w'.heap.size) => BookR.rd_keep h hb hz)
  have hml := book_len hm
  have HRs := Lib.hid (fun (w' : World) (hb : Below w.heap.size w w') (hz : w.heap.size ≤ w'.heap.size) => q0.keep hb hz)
  have HPS := Lib.hid (addL_paths (l := l) (reads_LeaseS q0).2 hs)
  clear h h2 q0 hm hm2 hmx
  generalize hT : f.Leases = ls at *
  cases hok : bookOk ls
  · have HD := Lib.hid (addOk_bad (l := l) hok)
    have HL := Lib.hid (addL_no HD.out)
    have HCl := Lib.hid (fun (w' : World) (h : SlRd LeaseR w' w'.heap.size (.slice A0 ls.length c0) ls) => impl_cloneBook A0 c0 ls w' h hml)
    rw [hok] at HOk
    clear hok hT
    generalize hn : ls.length = n at *
    have Hn := Lib.hid hn
    clear hn
    go_enter Tryd.func26, Tryd.ntmps26
    go_wp2_with fail
    refine (HOk.out _ (HR.out _ (by (repeat (first | (with_reducible exact Below.refl _ _) | (with_reducible assumption) | ((with_reducible refine Below.setCell ?_ ?_ _); rotate_left; focus (first | omega | (simp; done) | (simp; omega))) | ((with_reducible refine Below.alloc ?_ ?_ _); rotate_left; focus (first | omega | (simp; done) | (simp; omega))) | (with_reducible refine Below.drew ?_) | (with_reducible refine below_drewN ?_ _) | (refine Below.trans ?_ (Below.mono (by with_reducible assumption) (by (first | omega | (simp; done) | (simp; omega)))))))) (by first | omega | (simp; done) | (simp; omega))) (HM.out _ (by (repeat (first | (with_reducible exact Below.refl _ _) | (with_reducible assumption) | ((with_reducible refine Below.setCell ?_ ?_ _); rotate_left; focus (first | omega | (simp; done) | (simp; omega))) | ((with_reducible refine Below.alloc ?_ ?_ _); rotate_left; focus (first | omega | (simp; done) | (simp; omega))) | (with_reducible refine Below.drew ?_) | (with_reducible refine below_drewN ?_ _) | (refine Below.trans ?_ (Below.mono (by with_reducible assumption) (by (first | omega | (simp; done) | (simp; omega)))))))))).mono ?_
    rintro e w1 ⟨rfl, hb1⟩
    have hz1 := hb1.size; try simp at hz1
    have BK0 : Blk w1 w.heap.size 36 #[.slice A0 n c0] := by (repeat (first | (with_reducible assumption) | ((with_reducible refine Blk.new' ?_); focus (simp; done)) | (with_reducible refine Blk.alloc ?_ _) | (with_reducible refine Blk.drew ?_) | (with_reducible refine Blk.drewN ?_ _) | ((with_reducible refine Blk.far ?_ ?_ _); rotate_left; focus (first | omega | (simp; done) | (simp; omega))) | (refine Blk.keep ?_ (by with_reducible assumption)) | (refine Blk.below ?_ (by with_reducible assumption) (by (first | omega | (simp; done) | (simp; omega))))))
    have BK1 : Blk w1 (w.heap.size + 1) 26 #[.int .i64 l.Id, .int .i64 l.Token, .string l.Path, .int .i64 l.Made, .int .i64 l.Ends, .int .i64 l.Limit] := by (repeat (first | (with_reducible assumption) | ((with_reducible refine Blk.new' ?_); focus (simp; done)) | (with_reducible refine Blk.alloc ?_ _) | (with_reducible refine Blk.drew ?_) | (with_reducible refine Blk.drewN ?_ _) | ((with_reducible refine Blk.far ?_ ?_ _); rotate_left; focus (first | omega | (simp; done) | (simp; omega))) | (refine Blk.keep ?_ (by with_reducible assumption)) | (refine Blk.below ?_ (by with_reducible assumption) (by (first | omega | (simp; done) | (simp; omega))))))
    have BR : Blk w1 (w.heap.size + 2) 36 #[.slice none 0 0] := by (repeat (first | (with_reducible assumption) | ((with_reducible refine Blk.new' ?_); focus (simp; done)) | (with_reducible refine Blk.alloc ?_ _) | (with_reducible refine Blk.drew ?_) | (with_reducible refine Blk.drewN ?_ _) | ((with_reducible refine Blk.far ?_ ?_ _); rotate_left; focus (first | omega | (simp; done) | (simp; omega))) | (refine Blk.keep ?_ (by with_reducible assumption)) | (refine Blk.below ?_ (by with_reducible assumption) (by (first | omega | (simp; done) | (simp; omega))))))
    have hc0 := BK0.cell; have hf0 := BK0.frozen; have hl0 := BK0.lt; have hc1 := BK1.cell; have hf1 := BK1.frozen; have hl1 := BK1.lt; have hcR := BR.cell; have hfR := BR.frozen; have hlR := BR.lt
    go_wp2_with fail
    refine (HCl.out _ (HRs.out _ (by (repeat (first | (with_reducible exact Below.refl _ _) | (with_reducible assumption) | ((with_reducible refine Below.setCell ?_ ?_ _); rotate_left; focus (first | omega | (simp; done) | (simp; omega))) | ((with_reducible refine Below.alloc ?_ ?_ _); rotate_left; focus (first | omega | (simp; done) | (simp; omega))) | (with_reducible refine Below.drew ?_) | (with_reducible refine below_drewN ?_ _) | (refine Below.trans ?_ (Below.mono (by with_reducible assumption) (by (first | omega | (simp; done) | (simp; omega)))))))) (by first | omega | (simp; done) | (simp; omega)))).mono ?_
    rintro e w2 ⟨D, d, rfl, ho2, hb2⟩
    have hz2 := hb2.size; try simp at hz2
    replace BK0 : Blk w2 w.heap.size 36 #[.slice A0 n c0] := by (repeat (first | (with_reducible assumption) | ((with_reducible refine Blk.new' ?_); focus (simp; done)) | (with_reducible refine Blk.alloc ?_ _) | (with_reducible refine Blk.drew ?_) | (with_reducible refine Blk.drewN ?_ _) | ((with_reducible refine Blk.far ?_ ?_ _); rotate_left; focus (first | omega | (simp; done) | (simp; omega))) | (refine Blk.keep ?_ (by with_reducible assumption)) | (refine Blk.below ?_ (by with_reducible assumption) (by (first | omega | (simp; done) | (simp; omega))))))
    replace BK1 : Blk w2 (w.heap.size + 1) 26 #[.int .i64 l.Id, .int .i64 l.Token, .string l.Path, .int .i64 l.Made, .int .i64 l.Ends, .int .i64 l.Limit] := by (repeat (first | (with_reducible assumption) | ((with_reducible refine Blk.new' ?_); focus (simp; done)) | (with_reducible refine Blk.alloc ?_ _) | (with_reducible refine Blk.drew ?_) | (with_reducible refine Blk.drewN ?_ _) | ((with_reducible refine Blk.far ?_ ?_ _); rotate_left; focus (first | omega | (simp; done) | (simp; omega))) | (refine Blk.keep ?_ (by with_reducible assumption)) | (refine Blk.below ?_ (by with_reducible assumption) (by (first | omega | (simp; done) | (simp; omega))))))
    replace BR : Blk w2 (w.heap.size + 2) 36 #[.slice none 0 0] := by (repeat (first | (with_reducible assumption) | ((with_reducible refine Blk.new' ?_); focus (simp; done)) | (with_reducible refine Blk.alloc ?_ _) | (with_reducible refine Blk.drew ?_) | (with_reducible refine Blk.drewN ?_ _) | ((with_reducible refine Blk.far ?_ ?_ _); rotate_left; focus (first | omega | (simp; done) | (simp; omega))) | (refine Blk.keep ?_ (by with_reducible assumption)) | (refine Blk.below ?_ (by with_reducible assumption) (by (first | omega | (simp; done) | (simp; omega))))))
    replace hc0 := BK0.cell; replace hf0 := BK0.frozen; replace hl0 := BK0.lt; replace hc1 := BK1.cell; replace hf1 := BK1.frozen; replace hl1 := BK1.lt; replace hcR := BR.cell; replace hfR := BR.frozen; replace hlR := BR.lt
    go_wp2
    refine bodyPost_ret (v := .tuple #[.agg #[.slice D n d], .bool false]) (by simp [results, Tryd.results26, go_sem, hcR, hfR]) rfl ⟨[.slice D n d], by rw [HD.out], ?_, by (repeat (first | (with_reducible exact Below.refl _ _) | (with_reducible assumption) | ((with_reducible refine Below.setCell ?_ ?_ _); rotate_left; focus (first | omega | (simp; done) | (simp; omega))) | ((with_reducible refine Below.alloc ?_ ?_ _); rotate_left; focus (first | omega | (simp; done) | (simp; omega))) | (with_reducible refine Below.drew ?_) | (with_reducible refine below_drewN ?_ _) | (refine Below.trans ?_ (Below.mono (by with_reducible assumption) (by (first | omega | (simp; done) | (simp; omega)))))))⟩
    refine of_own_Book (S0 := InR w.heap.size w2.heap.size) ?_ (fun g hg => by simpa using hg)
    show SlOwn LeaseR 26 _ _ _ (addL ls l)
    rw [HL.out]
    have hps := HPS.out
    rw [HL.out] at hps
    have ho3 := own_base (base' := w.heap.size) (own_setCell ho2 (a := ⟨w.heap.size + 2, 0, none⟩) (by first | omega | (simp; done) | (simp; omega)) (.slice D n d)) (by first | omega | (simp; done) | (simp; omega))
    have h5 := of_own_LeaseS ho3 Hn.out hps
    simpa using h5
  · have HA := Lib.hid (fun (w' : World) (h : SlRd LeaseR w' w'.heap.size (.slice A0 ls.length c0) ls) (hx : MaxLenInt w') => impl_addLease A0 c0 ls l w' h hml hs hok hx)
    rw [hok] at HOk
    clear hok hT
    generalize hn : ls.length = n at *
    have Hn := Lib.hid hn
    clear hn
    generalize hm3 : (addL ls l).length = m at *
    have Hm := Lib.hid hm3
    clear hm3
    go_enter Tryd.func26, Tryd.ntmps26
    go_wp2_with fail
    refine (HOk.out _ (HR.out _ (by (repeat (first | (with_reducible exact Below.refl _ _) | (with_reducible assumption) | ((with_reducible refine Below.setCell ?_ ?_ _); rotate_left; focus (first | omega | (simp; done) | (simp; omega))) | ((with_reducible refine Below.alloc ?_ ?_ _); rotate_left; focus (first | omega | (simp; done) | (simp; omega))) | (with_reducible refine Below.drew ?_) | (with_reducible refine below_drewN ?_ _) | (refine Below.trans ?_ (Below.mono (by with_reducible assumption) (by (first | omega | (simp; done) | (simp; omega)))))))) (by first | omega | (simp; done) | (simp; omega))) (HM.out _ (by (repeat (first | (with_reducible exact Below.refl _ _) | (with_reducible assumption) | ((with_reducible refine Below.setCell ?_ ?_ _); rotate_left; focus (first | omega | (simp; done) | (simp; omega))) | ((with_reducible refine Below.alloc ?_ ?_ _); rotate_left; focus (first | omega | (simp; done) | (simp; omega))) | (with_reducible refine Below.drew ?_) | (with_reducible refine below_drewN ?_ _) | (refine Below.trans ?_ (Below.mono (by with_reducible assumption) (by (first | omega | (simp; done) | (simp; omega)))))))))).mono ?_
    rintro e w1 ⟨rfl, hb1⟩
    have hz1 := hb1.size; try simp at hz1
    have BK0 : Blk w1 w.heap.size 36 #[.slice A0 n c0] := by (repeat (first | (with_reducible assumption) | ((with_reducible refine Blk.new' ?_); focus (simp; done)) | (with_reducible refine Blk.alloc ?_ _) | (with_reducible refine Blk.drew ?_) | (with_reducible refine Blk.drewN ?_ _) | ((with_reducible refine Blk.far ?_ ?_ _); rotate_left; focus (first | omega | (simp; done) | (simp; omega))) | (refine Blk.keep ?_ (by with_reducible assumption)) | (refine Blk.below ?_ (by with_reducible assumption) (by (first | omega | (simp; done) | (simp; omega))))))
    have BK1 : Blk w1 (w.heap.size + 1) 26 #[.int .i64 l.Id, .int .i64 l.Token, .string l.Path, .int .i64 l.Made, .int .i64 l.Ends, .int .i64 l.Limit] := by (repeat (first | (with_reducible assumption) | ((with_reducible refine Blk.new' ?_); focus (simp; done)) | (with_reducible refine Blk.alloc ?_ _) | (with_reducible refine Blk.drew ?_) | (with_reducible refine Blk.drewN ?_ _) | ((with_reducible refine Blk.far ?_ ?_ _); rotate_left; focus (first | omega | (simp; done) | (simp; omega))) | (refine Blk.keep ?_ (by with_reducible assumption)) | (refine Blk.below ?_ (by with_reducible assumption) (by (first | omega | (simp; done) | (simp; omega))))))
    have BR : Blk w1 (w.heap.size + 2) 36 #[.slice none 0 0] := by (repeat (first | (with_reducible assumption) | ((with_reducible refine Blk.new' ?_); focus (simp; done)) | (with_reducible refine Blk.alloc ?_ _) | (with_reducible refine Blk.drew ?_) | (with_reducible refine Blk.drewN ?_ _) | ((with_reducible refine Blk.far ?_ ?_ _); rotate_left; focus (first | omega | (simp; done) | (simp; omega))) | (refine Blk.keep ?_ (by with_reducible assumption)) | (refine Blk.below ?_ (by with_reducible assumption) (by (first | omega | (simp; done) | (simp; omega))))))
    have hc0 := BK0.cell; have hf0 := BK0.frozen; have hl0 := BK0.lt; have hc1 := BK1.cell; have hf1 := BK1.frozen; have hl1 := BK1.lt; have hcR := BR.cell; have hfR := BR.frozen; have hlR := BR.lt
    go_wp2_with fail
    refine (HA.out _ (HRs.out _ (by (repeat (first | (with_reducible exact Below.refl _ _) | (with_reducible assumption) | ((with_reducible refine Below.setCell ?_ ?_ _); rotate_left; focus (first | omega | (simp; done) | (simp; omega))) | ((with_reducible refine Below.alloc ?_ ?_ _); rotate_left; focus (first | omega | (simp; done) | (simp; omega))) | (with_reducible refine Below.drew ?_) | (with_reducible refine below_drewN ?_ _) | (refine Below.trans ?_ (Below.mono (by with_reducible assumption) (by (first | omega | (simp; done) | (simp; omega)))))))) (by first | omega | (simp; done) | (simp; omega))) (HM.out _ (by (repeat (first | (with_reducible exact Below.refl _ _) | (with_reducible assumption) | ((with_reducible refine Below.setCell ?_ ?_ _); rotate_left; focus (first | omega | (simp; done) | (simp; omega))) | ((with_reducible refine Below.alloc ?_ ?_ _); rotate_left; focus (first | omega | (simp; done) | (simp; omega))) | (with_reducible refine Below.drew ?_) | (with_reducible refine below_drewN ?_ _) | (refine Below.trans ?_ (Below.mono (by with_reducible assumption) (by (first | omega | (simp; done) | (simp; omega)))))))))).mono ?_
    rintro e w2 ⟨D, d, rfl, ho2, hb2⟩
    have hz2 := hb2.size; try simp at hz2
    replace BK0 : Blk w2 w.heap.size 36 #[.slice A0 n c0] := by (repeat (first | (with_reducible assumption) | ((with_reducible refine Blk.new' ?_); focus (simp; done)) | (with_reducible refine Blk.alloc ?_ _) | (with_reducible refine Blk.drew ?_) | (with_reducible refine Blk.drewN ?_ _) | ((with_reducible refine Blk.far ?_ ?_ _); rotate_left; focus (first | omega | (simp; done) | (simp; omega))) | (refine Blk.keep ?_ (by with_reducible assumption)) | (refine Blk.below ?_ (by with_reducible assumption) (by (first | omega | (simp; done) | (simp; omega))))))
    replace BK1 : Blk w2 (w.heap.size + 1) 26 #[.int .i64 l.Id, .int .i64 l.Token, .string l.Path, .int .i64 l.Made, .int .i64 l.Ends, .int .i64 l.Limit] := by (repeat (first | (with_reducible assumption) | ((with_reducible refine Blk.new' ?_); focus (simp; done)) | (with_reducible refine Blk.alloc ?_ _) | (with_reducible refine Blk.drew ?_) | (with_reducible refine Blk.drewN ?_ _) | ((with_reducible refine Blk.far ?_ ?_ _); rotate_left; focus (first | omega | (simp; done) | (simp; omega))) | (refine Blk.keep ?_ (by with_reducible assumption)) | (refine Blk.below ?_ (by with_reducible assumption) (by (first | omega | (simp; done) | (simp; omega))))))
    replace BR : Blk w2 (w.heap.size + 2) 36 #[.slice none 0 0] := by (repeat (first | (with_reducible assumption) | ((with_reducible refine Blk.new' ?_); focus (simp; done)) | (with_reducible refine Blk.alloc ?_ _) | (with_reducible refine Blk.drew ?_) | (with_reducible refine Blk.drewN ?_ _) | ((with_reducible refine Blk.far ?_ ?_ _); rotate_left; focus (first | omega | (simp; done) | (simp; omega))) | (refine Blk.keep ?_ (by with_reducible assumption)) | (refine Blk.below ?_ (by with_reducible assumption) (by (first | omega | (simp; done) | (simp; omega))))))
    replace hc0 := BK0.cell; replace hf0 := BK0.frozen; replace hl0 := BK0.lt; replace hc1 := BK1.cell; replace hf1 := BK1.frozen; replace hl1 := BK1.lt; replace hcR := BR.cell; replace hfR := BR.frozen; replace hlR := BR.lt
    go_wp2
    refine bodyPost_ret (v := .tuple #[.agg #[.slice D m d], .bool (addOk ls l)]) (by simp [results, Tryd.results26, go_sem, hcR, hfR]) rfl ⟨[.slice D m d], rfl, ?_, by (repeat (first | (with_reducible exact Below.refl _ _) | (with_reducible assumption) | ((with_reducible refine Below.setCell ?_ ?_ _); rotate_left; focus (first | omega | (simp; done) | (simp; omega))) | ((with_reducible refine Below.alloc ?_ ?_ _); rotate_left; focus (first | omega | (simp; done) | (simp; omega))) | (with_reducible refine Below.drew ?_) | (with_reducible refine below_drewN ?_ _) | (refine Below.trans ?_ (Below.mono (by with_reducible assumption) (by (first | omega | (simp; done) | (simp; omega)))))))⟩
    refine of_own_Book (S0 := InR w.heap.size w2.heap.size) ?_ (fun g hg => by simpa using hg)
    show SlOwn LeaseR 26 _ _ _ (addL ls l)
    have ho3 := own_base (base' := w.heap.size) (own_setCell ho2 (a := ⟨w.heap.size + 2, 0, none⟩) (by first | omega | (simp; done) | (simp; omega)) (.slice D m d)) (by first | omega | (simp; done) | (simp; omega))
    have h5 := of_own_LeaseS ho3 Hm.out HPS.out
    simpa using h5
end Go.Proofs.YtbfnkfaagmjfnaaDoor

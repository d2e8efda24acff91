/- FindLease, both sides. -/
import Derived.Test.YtohfnpohmieknaaDoorLeaseIdx
set_option linter.unusedSimpArgs false
set_option linter.unusedVariables false
set_option maxRecDepth 20000
namespace Go.Proofs.YtohfnpohmieknaaDoor
open Go.RowKit
set_option maxHeartbeats 3200000 in
theorem spec_FindLeaseL (cs : List Value) (f : Book) (id : Int) (w : World) (h : BookR.Rd w w.heap.size cs f) (hm : BookR.sz f ≤ 1048576) :
    Calls Tryd.prog 12 #[.agg cs.toArray, .int .i64 id] w fun e w' => ∃ cs', e = .returned (.tuple #[.agg cs'.toArray, .bool (findB f.Leases id)]) ∧ LeaseR.Own w' (InR w.heap.size w'.heap.size) cs' (findR f.Leases id) ∧ Below w.heap.size w w' := by
  obtain ⟨v0, rfl, q0⟩ := rd_Book (_root_.id h)
  obtain ⟨A0, c0, rfl⟩ := q0.form
  have HOk := Lib.hid (fun (w' : World) (h : BookR.Rd w' w'.heap.size [.slice A0 f.Leases.length c0] f) => spec_BookOkL _ f w' h hm)
  have HR := Lib.hid (fun (w' : World) (hb : Below w.heap.size w w') (hz : w.heap.size ≤ w'.heap.size) => BookR.rd_keep h hb hz)
  have HRs := Lib.hid (fun (w' : World) (hb : Below w.heap.size w w') => q0.below hb (Nat.le_refl _))
  have hml := book_len hm
  clear h q0 hm
  generalize hT : f.Leases = ls at *
  generalize hn : ls.length = n at *
  have Hn := Lib.hid hn
  clear hn hT
  go_enter Tryd.func12, Tryd.ntmps12
  go_wp2_with fail
  refine (HOk.out _ (HR.out _ (by (repeat (first | (with_reducible exact Below.refl _ _) | (with_reducible assumption) | ((with_reducible refine Below.setCell ?_ ?_ _); rotate_left; focus (first | omega | (simp; done) | (simp; omega))) | ((with_reducible refine Below.alloc ?_ ?_ _); rotate_left; focus (first | omega | (simp; done) | (simp; omega))) | (with_reducible refine Below.drew ?_) | (with_reducible refine below_drewN ?_ _) | (refine Below.trans ?_ (Below.mono (by with_reducible assumption) (by (first | omega | (simp; done) | (simp; omega)))))))) (by first | omega | (simp; done) | (simp; omega)))).mono ?_
  rintro e w1 ⟨rfl, hb1⟩
  have hz1 := hb1.size; try simp at hz1
  have BK0 : Blk w1 w.heap.size 26 #[.slice A0 n c0] := by (repeat (first | (with_reducible assumption) | ((with_reducible refine Blk.new' ?_); focus (simp; done)) | (with_reducible refine Blk.alloc ?_ _) | (with_reducible refine Blk.drew ?_) | (with_reducible refine Blk.drewN ?_ _) | ((with_reducible refine Blk.far ?_ ?_ _); rotate_left; focus (first | omega | (simp; done) | (simp; omega))) | (refine Blk.keep ?_ (by with_reducible assumption)) | (refine Blk.below ?_ (by with_reducible assumption) (by (first | omega | (simp; done) | (simp; omega))))))
  have BK1 : Blk w1 (w.heap.size + 1) 32 #[.int .i64 0, .int .i64 0, .string ⟨#[]⟩, .int .i64 0, .int .i64 0, .int .i64 0] := by (repeat (first | (with_reducible assumption) | ((with_reducible refine Blk.new' ?_); focus (simp; done)) | (with_reducible refine Blk.alloc ?_ _) | (with_reducible refine Blk.drew ?_) | (with_reducible refine Blk.drewN ?_ _) | ((with_reducible refine Blk.far ?_ ?_ _); rotate_left; focus (first | omega | (simp; done) | (simp; omega))) | (refine Blk.keep ?_ (by with_reducible assumption)) | (refine Blk.below ?_ (by with_reducible assumption) (by (first | omega | (simp; done) | (simp; omega))))))
  have hc0 := BK0.cell; have hf0 := BK0.frozen; have hl0 := BK0.lt; have hc1 := BK1.cell; have hf1 := BK1.frozen; have hl1 := BK1.lt
  cases hok : bookOk ls
  · have HD := Lib.hid (findB_bad (id := id) hok)
    have HN := Lib.hid (findR_no HD.out)
    clear hok
    go_wp2
    refine bodyPost_ret (v := .tuple #[.agg #[.int .i64 0, .int .i64 0, .string ⟨#[]⟩, .int .i64 0, .int .i64 0, .int .i64 0], .bool false]) (by simp [results, Tryd.results12, go_sem, hc1, hf1]) rfl ⟨_, by rw [HD.out], by rw [HN.out]; exact own_noLease _ _, by (repeat (first | (with_reducible exact Below.refl _ _) | (with_reducible assumption) | ((with_reducible refine Below.setCell ?_ ?_ _); rotate_left; focus (first | omega | (simp; done) | (simp; omega))) | ((with_reducible refine Below.alloc ?_ ?_ _); rotate_left; focus (first | omega | (simp; done) | (simp; omega))) | (with_reducible refine Below.drew ?_) | (with_reducible refine below_drewN ?_ _) | (refine Below.trans ?_ (Below.mono (by with_reducible assumption) (by (first | omega | (simp; done) | (simp; omega)))))))⟩
  have HOK := Lib.hid hok
  clear hok
  have hbw : Below w.heap.size w w1 := by (repeat (first | (with_reducible exact Below.refl _ _) | (with_reducible assumption) | ((with_reducible refine Below.setCell ?_ ?_ _); rotate_left; focus (first | omega | (simp; done) | (simp; omega))) | ((with_reducible refine Below.alloc ?_ ?_ _); rotate_left; focus (first | omega | (simp; done) | (simp; omega))) | (with_reducible refine Below.drew ?_) | (with_reducible refine below_drewN ?_ _) | (refine Below.trans ?_ (Below.mono (by with_reducible assumption) (by (first | omega | (simp; done) | (simp; omega)))))))
  have hzw : w.heap.size ≤ w1.heap.size := hbw.size
  go_wp2
  go_loop [6] (fun i => ∃ k : Nat, k ≤ n ∧ i = .int .i64 k ∧ Hid (∀ j (hj : j < ls.length), j < k → hasLease id ls[j] = false)) (fun i => n - (intOf i).toNat)
  case atStart => exact ⟨0, Nat.zero_le _, rfl, fun j _ h => absurd h (by omega)⟩
  case round =>
    obtain ⟨k, hk, rfl, hinv⟩ := hrel
    by_cases hlt : k < n
    · have hlx : k < ls.length := by rw [Hn.out]; exact hlt
      have HG := Lib.hid (List.getElem?_eq_getElem hlx)
      generalize ls[k]'hlx = l at HG
      obtain ⟨b, off, rfl, hab, hps, hq0, hq1, hq2, hq3, hq4, hq5⟩ := lease_elem (HRs.out _ hbw) HG.out
      have HPS := Lib.hid hps
      clear hps
      cases hT : l.Id == id
      · have HT : Hid (hasLease id l = false) := Lib.hid hT
        go_wp2
        go_round
        case rel =>
          refine ⟨k + 1, by omega, by go_num, fun j hj1 hj2 => ?_⟩
          rcases Nat.lt_or_ge j k with h | h
          · exact hinv.out j hj1 h
          · obtain rfl : j = k := by omega
            have e1 := HG.out
            rw [List.getElem?_eq_getElem hj1] at e1
            rw [Option.some.inj e1]
            exact HT.out
        case measure => simp [intOf]; omega
      · have HX : Hid (idxL ls id = ((k : Nat) : Int)) := Lib.hid (by
          have e1 := HG.out
          obtain ⟨h1, h2⟩ := List.getElem?_eq_some_iff.1 e1
          exact idxB_found h1 (fun j hj => hinv.out j (by omega) hj) (by rw [h2]; exact hT))
        have HD := Lib.hid (findB_at HOK.out HX.out)
        have HN := Lib.hid (findR_at HOK.out HX.out HG.out)
        clear hlx
        go_wp2
        refine bodyPost_ret (v := .tuple #[.agg #[.int .i64 l.Id, .int .i64 l.Token, .string l.Path, .int .i64 l.Made, .int .i64 l.Ends, .int .i64 l.Limit], .bool true]) (by simp [results, Tryd.results12, go_sem, hc1, hf1]) rfl ⟨_, by rw [HD.out], by rw [HN.out]; exact of_own_Lease HPS.out, by (repeat (first | (with_reducible exact Below.refl _ _) | (with_reducible assumption) | ((with_reducible refine Below.setCell ?_ ?_ _); rotate_left; focus (first | omega | (simp; done) | (simp; omega))) | ((with_reducible refine Below.alloc ?_ ?_ _); rotate_left; focus (first | omega | (simp; done) | (simp; omega))) | (with_reducible refine Below.drew ?_) | (with_reducible refine below_drewN ?_ _) | (refine Below.trans ?_ (Below.mono (by with_reducible assumption) (by (first | omega | (simp; done) | (simp; omega)))))))⟩
    · obtain rfl : k = n := by omega
      have HX : Hid (idxL ls id = -1) := Lib.hid (idxB_none (fun j hj => hinv.out j hj (by rw [← Hn.out]; exact hj)))
      have HD := Lib.hid (findB_none HX.out)
      have HN := Lib.hid (findR_no HD.out)
      go_wp2
      refine bodyPost_ret (v := .tuple #[.agg #[.int .i64 0, .int .i64 0, .string ⟨#[]⟩, .int .i64 0, .int .i64 0, .int .i64 0], .bool false]) (by simp [results, Tryd.results12, go_sem, hc1, hf1]) rfl ⟨_, by rw [HD.out], by rw [HN.out]; exact own_noLease _ _, by (repeat (first | (with_reducible exact Below.refl _ _) | (with_reducible assumption) | ((with_reducible refine Below.setCell ?_ ?_ _); rotate_left; focus (first | omega | (simp; done) | (simp; omega))) | ((with_reducible refine Below.alloc ?_ ?_ _); rotate_left; focus (first | omega | (simp; done) | (simp; omega))) | (with_reducible refine Below.drew ?_) | (with_reducible refine below_drewN ?_ _) | (refine Below.trans ?_ (Below.mono (by with_reducible assumption) (by (first | omega | (simp; done) | (simp; omega)))))))⟩
end Go.Proofs.YtohfnpohmieknaaDoor

/- RewriteLog of the reference. -/
import Derived.Test.YtgaenfkjobkmjaaPureRew
import Derived.Test.YtgaenfkjobkmjaaImplAppend
import Derived.Test.YtgaenfkjobkmjaaNil
set_option linter.unusedSimpArgs false
set_option linter.unusedVariables false
set_option maxRecDepth 20000
namespace Go.Proofs.Ytgaenfkjobkmjaa
open Go.RowKit
theorem cell_of_heap {w w' : World} {b i : Nat} (h : w'.heap[b]? = w.heap[b]?) : w'.cell? ⟨b, i, none⟩ = w.cell? ⟨b, i, none⟩ := by
  simp [World.cell?, h]
set_option maxHeartbeats 6400000 in
theorem spec_RewriteLogL (cs : List Value) (d : Disk) (vl : Value) (rs : List Record) (w : World) (h : DiskR.Rd w w.heap.size cs d) (hs : SlRd RecordR w w.heap.size vl rs) (hm : DiskR.sz d ≤ 1048576) (hms : szList RecordR rs ≤ 1048576) :
    Calls Try.prog 33 #[.agg cs.toArray, vl] w fun e w' => ∃ cs', e = .returned (.tuple #[.agg cs'.toArray, .bool (rewB d rs)]) ∧ DiskR.Own w' (InR w.heap.size w'.heap.size) cs' (rewD d rs) ∧ Below w.heap.size w w' := by
  obtain ⟨v0, v1, rfl, q0, q1⟩ := rd_Disk (_root_.id h)
  obtain ⟨A0, c0, rfl⟩ := q0.form
  obtain ⟨A1, c1, rfl⟩ := q1.form
  obtain ⟨AL, cL, rfl⟩ := hs.form
  obtain ⟨i0, hi0, hI0, hI1, hI2⟩ := info_parts info_uint8
  have HOk := Lib.hid (fun (w' : World) (h : DiskR.Rd w' w'.heap.size [.slice A0 d.Safe.length c0, .slice A1 d.Loose.length c1] d) => spec_DiskOk _ d w' h hm)
  have HCp := Lib.hid (fun (w' : World) (h : DiskR.Rd w' w'.heap.size [.slice A0 d.Safe.length c0, .slice A1 d.Loose.length c1] d) => spec_l06Copy _ d w' h hm)
  have HR := Lib.hid (fun (w' : World) (hb : Below w.heap.size w w') (hz : w.heap.size ≤ w'.heap.size) => DiskR.rd_keep h hb hz)
  have HFr := Lib.hid (fun (k : Nat) (r : Record) (hk : rs[k]? = some r) (cs2 : List Value) (w' : World) (h : RecordR.Rd w' w'.heap.size cs2 r) => spec_FrameRecord cs2 r w' h (Nat.le_trans (szList_one hk) hms))
  have hml : rs.length ≤ 1048576 := Nat.le_trans (len_le_sz RecordR rs) hms
  have hRS := fun b => rew_some (d := d) (rs := rs) (b := b)
  have hRN := rew_none (d := d) (rs := rs)
  have hRB := rew_bad (d := d) (rs := rs)
  generalize rewB d rs = RB at *
  generalize rewD d rs = RD at *
  generalize hn : rs.length = n at *
  have Hn := Lib.hid hn
  clear hn hm hms
  cases hok : d.ok
  · have HN := Lib.hid (hRB hok)
    rw [hok] at HOk
    clear hok hRS hRN hRB h q0 q1
    go_enter Try.func33, Try.ntmps33
    go_wp2_with fail
    refine (HOk.out _ (HR.out _ (by (repeat (first | (with_reducible exact Below.refl _ _) | (with_reducible assumption) | ((with_reducible refine Below.setCell ?_ ?_ _); rotate_left; focus (first | omega | (simp; done) | (simp; omega))) | ((with_reducible refine Below.alloc ?_ ?_ _); rotate_left; focus (first | omega | (simp; done) | (simp; omega))) | (with_reducible refine Below.drew ?_) | (with_reducible refine below_drewN ?_ _) | (refine Below.trans ?_ (Below.mono (by with_reducible assumption) (by (first | omega | (simp; done) | (simp; omega)))))))) (by first | omega | (simp; done) | (simp; omega)))).mono ?_
    rintro e w1 ⟨rfl, hb1⟩
    have hz1 := hb1.size; try simp at hz1
    have BK0 : Blk w1 w.heap.size 44 #[.slice A0 d.Safe.length c0, .slice A1 d.Loose.length c1] := by (repeat (first | (with_reducible assumption) | ((with_reducible refine Blk.new' ?_); focus (simp; done)) | (with_reducible refine Blk.alloc ?_ _) | (with_reducible refine Blk.drew ?_) | (with_reducible refine Blk.drewN ?_ _) | ((with_reducible refine Blk.far ?_ ?_ _); rotate_left; focus (first | omega | (simp; done) | (simp; omega))) | (refine Blk.keep ?_ (by with_reducible assumption)) | (refine Blk.below ?_ (by with_reducible assumption) (by (first | omega | (simp; done) | (simp; omega))))))
    have hc0 := BK0.cell; have hf0 := BK0.frozen; have hl0 := BK0.lt
    have BK1 : Blk w1 (w.heap.size + 1) 44 #[.slice none 0 0, .slice none 0 0] := by (repeat (first | (with_reducible assumption) | ((with_reducible refine Blk.new' ?_); focus (simp; done)) | (with_reducible refine Blk.alloc ?_ _) | (with_reducible refine Blk.drew ?_) | (with_reducible refine Blk.drewN ?_ _) | ((with_reducible refine Blk.far ?_ ?_ _); rotate_left; focus (first | omega | (simp; done) | (simp; omega))) | (refine Blk.keep ?_ (by with_reducible assumption)) | (refine Blk.below ?_ (by with_reducible assumption) (by (first | omega | (simp; done) | (simp; omega))))))
    have hc1 := BK1.cell; have hf1 := BK1.frozen; have hl1 := BK1.lt
    go_wp2_with fail
    refine (HCp.out _ (HR.out _ (by (repeat (first | (with_reducible exact Below.refl _ _) | (with_reducible assumption) | ((with_reducible refine Below.setCell ?_ ?_ _); rotate_left; focus (first | omega | (simp; done) | (simp; omega))) | ((with_reducible refine Below.alloc ?_ ?_ _); rotate_left; focus (first | omega | (simp; done) | (simp; omega))) | (with_reducible refine Below.drew ?_) | (with_reducible refine below_drewN ?_ _) | (refine Below.trans ?_ (Below.mono (by with_reducible assumption) (by (first | omega | (simp; done) | (simp; omega)))))))) (by first | omega | (simp; done) | (simp; omega)))).mono ?_
    rintro e w2 ⟨cs2, rfl, ho2, hb2⟩
    have hz2 := hb2.size; try simp at hz2
    replace BK0 : Blk w2 w.heap.size 44 #[.slice A0 d.Safe.length c0, .slice A1 d.Loose.length c1] := by (repeat (first | (with_reducible assumption) | ((with_reducible refine Blk.new' ?_); focus (simp; done)) | (with_reducible refine Blk.alloc ?_ _) | (with_reducible refine Blk.drew ?_) | (with_reducible refine Blk.drewN ?_ _) | ((with_reducible refine Blk.far ?_ ?_ _); rotate_left; focus (first | omega | (simp; done) | (simp; omega))) | (refine Blk.keep ?_ (by with_reducible assumption)) | (refine Blk.below ?_ (by with_reducible assumption) (by (first | omega | (simp; done) | (simp; omega))))))
    replace hc0 := BK0.cell; replace hf0 := BK0.frozen; replace hl0 := BK0.lt
    replace BK1 : Blk w2 (w.heap.size + 1) 44 #[.slice none 0 0, .slice none 0 0] := by (repeat (first | (with_reducible assumption) | ((with_reducible refine Blk.new' ?_); focus (simp; done)) | (with_reducible refine Blk.alloc ?_ _) | (with_reducible refine Blk.drew ?_) | (with_reducible refine Blk.drewN ?_ _) | ((with_reducible refine Blk.far ?_ ?_ _); rotate_left; focus (first | omega | (simp; done) | (simp; omega))) | (refine Blk.keep ?_ (by with_reducible assumption)) | (refine Blk.below ?_ (by with_reducible assumption) (by (first | omega | (simp; done) | (simp; omega))))))
    replace hc1 := BK1.cell; replace hf1 := BK1.frozen; replace hl1 := BK1.lt
    obtain ⟨_, _, _, _, rfl, p0, p1, -⟩ := own_Disk (_root_.id ho2)
    obtain ⟨D0, d0, rfl⟩ := p0.form
    obtain ⟨D1, d1, rfl⟩ := p1.form
    go_wp2
    refine bodyPost_ret (v := .tuple #[.agg #[.slice D0 d.Safe.length d0, .slice D1 d.Loose.length d1], .bool false]) (by simp [results, Try.results33, go_sem, hc1, hf1]) rfl ⟨[.slice D0 d.Safe.length d0, .slice D1 d.Loose.length d1], by rw [HN.out.1], ?_, by (repeat (first | (with_reducible exact Below.refl _ _) | (with_reducible assumption) | ((with_reducible refine Below.setCell ?_ ?_ _); rotate_left; focus (first | omega | (simp; done) | (simp; omega))) | ((with_reducible refine Below.alloc ?_ ?_ _); rotate_left; focus (first | omega | (simp; done) | (simp; omega))) | (with_reducible refine Below.drew ?_) | (with_reducible refine below_drewN ?_ _) | (refine Below.trans ?_ (Below.mono (by with_reducible assumption) (by (first | omega | (simp; done) | (simp; omega)))))))⟩
    rw [HN.out.2]
    exact DiskR.own_wide (DiskR.own_off ho2 (by (repeat (first | (with_reducible exact Out.refl _ _) | (with_reducible assumption) | ((with_reducible refine Out.setCell ?_ ?_ _); rotate_left; focus (first | (refine Or.inl ?_; (first | omega | (simp; done) | (simp; omega))) | (refine Or.inr ?_; (first | omega | (simp; done) | (simp; omega))))) | (with_reducible refine Out.alloc ?_ _) | (with_reducible refine Out.drew ?_) | (with_reducible refine Out.drewN ?_ _) | (refine Out.step ?_ (by with_reducible assumption)))))) (inR_mono (by first | omega | (simp; done) | (simp; omega)) (by first | omega | (simp; done) | (simp; omega)))
  have HRS := Lib.hid (fun b h2 => hRS b hok h2)
  have HRN := Lib.hid hRN
  rw [hok] at HOk
  clear hok hRS hRN hRB h q0 q1
  go_enter Try.func33, Try.ntmps33
  go_wp2_with fail
  refine (HOk.out _ (HR.out _ (by (repeat (first | (with_reducible exact Below.refl _ _) | (with_reducible assumption) | ((with_reducible refine Below.setCell ?_ ?_ _); rotate_left; focus (first | omega | (simp; done) | (simp; omega))) | ((with_reducible refine Below.alloc ?_ ?_ _); rotate_left; focus (first | omega | (simp; done) | (simp; omega))) | (with_reducible refine Below.drew ?_) | (with_reducible refine below_drewN ?_ _) | (refine Below.trans ?_ (Below.mono (by with_reducible assumption) (by (first | omega | (simp; done) | (simp; omega)))))))) (by first | omega | (simp; done) | (simp; omega)))).mono ?_
  rintro e w1 ⟨rfl, hb1⟩
  have hz1 := hb1.size; try simp at hz1
  have BK0 : Blk w1 w.heap.size 44 #[.slice A0 d.Safe.length c0, .slice A1 d.Loose.length c1] := by (repeat (first | (with_reducible assumption) | ((with_reducible refine Blk.new' ?_); focus (simp; done)) | (with_reducible refine Blk.alloc ?_ _) | (with_reducible refine Blk.drew ?_) | (with_reducible refine Blk.drewN ?_ _) | ((with_reducible refine Blk.far ?_ ?_ _); rotate_left; focus (first | omega | (simp; done) | (simp; omega))) | (refine Blk.keep ?_ (by with_reducible assumption)) | (refine Blk.below ?_ (by with_reducible assumption) (by (first | omega | (simp; done) | (simp; omega))))))
  have hc0 := BK0.cell; have hf0 := BK0.frozen; have hl0 := BK0.lt
  have BK1 : Blk w1 (w.heap.size + 1) 44 #[.slice none 0 0, .slice none 0 0] := by (repeat (first | (with_reducible assumption) | ((with_reducible refine Blk.new' ?_); focus (simp; done)) | (with_reducible refine Blk.alloc ?_ _) | (with_reducible refine Blk.drew ?_) | (with_reducible refine Blk.drewN ?_ _) | ((with_reducible refine Blk.far ?_ ?_ _); rotate_left; focus (first | omega | (simp; done) | (simp; omega))) | (refine Blk.keep ?_ (by with_reducible assumption)) | (refine Blk.below ?_ (by with_reducible assumption) (by (first | omega | (simp; done) | (simp; omega))))))
  have hc1 := BK1.cell; have hf1 := BK1.frozen; have hl1 := BK1.lt
  have hbw1 : Below w.heap.size w w1 := by (repeat (first | (with_reducible exact Below.refl _ _) | (with_reducible assumption) | ((with_reducible refine Below.setCell ?_ ?_ _); rotate_left; focus (first | omega | (simp; done) | (simp; omega))) | ((with_reducible refine Below.alloc ?_ ?_ _); rotate_left; focus (first | omega | (simp; done) | (simp; omega))) | (with_reducible refine Below.drew ?_) | (with_reducible refine below_drewN ?_ _) | (refine Below.trans ?_ (Below.mono (by with_reducible assumption) (by (first | omega | (simp; done) | (simp; omega)))))))
  have hlit : World.ownsRow _ _ 5 1 _ _ _ := World.ownsRow_lit (size := 1) ((w.alloc (.cells #[.slice A0 d.Safe.length c0, .slice A1 d.Loose.length c1] 44)).alloc (.cells #[.slice none 0 0, .slice none 0 0] 44)) #[] 0 (Nat.le_refl _) (by simp [maxLen]) rfl
  replace hlit := own_below hlit hb1
  go_wp2
  go_loopw [6, 7] (fun sl i wr => ∃ (k : Nat) (acc : List UInt8) (A2 : Option Addr) (c2 : Nat), k ≤ n ∧ acc.length ≤ 40000 ∧ i = .int .i64 k ∧ sl = .slice A2 acc.length c2 ∧ Below w.heap.size w wr ∧ w.heap.size + 2 ≤ wr.heap.size ∧ Blk wr w.heap.size 44 #[.slice A0 d.Safe.length c0, .slice A1 d.Loose.length c1] ∧ Blk wr (w.heap.size + 1) 44 #[.slice none 0 0, .slice none 0 0] ∧ Hid (wr.ownsRow (w.heap.size + 2) 5 1 (.slice A2 acc.length c2) acc.length (acc.map byteV)) ∧ Hid (rewA rs [] = rewA (rs.drop k) acc)) (fun _ i _ => n - (intOf i).toNat)
  case atStart => exact ⟨0, [], _, 0, Nat.zero_le _, by simp, rfl, rfl, by (repeat (first | (with_reducible exact Below.refl _ _) | (with_reducible assumption) | ((with_reducible refine Below.setCell ?_ ?_ _); rotate_left; focus (first | omega | (simp; done) | (simp; omega))) | ((with_reducible refine Below.alloc ?_ ?_ _); rotate_left; focus (first | omega | (simp; done) | (simp; omega))) | (with_reducible refine Below.drew ?_) | (with_reducible refine below_drewN ?_ _) | (refine Below.trans ?_ (Below.mono (by with_reducible assumption) (by (first | omega | (simp; done) | (simp; omega))))))), by omega, by (repeat (first | (with_reducible assumption) | ((with_reducible refine Blk.new' ?_); focus (simp; done)) | (with_reducible refine Blk.alloc ?_ _) | (with_reducible refine Blk.drew ?_) | (with_reducible refine Blk.drewN ?_ _) | ((with_reducible refine Blk.far ?_ ?_ _); rotate_left; focus (first | omega | (simp; done) | (simp; omega))) | (refine Blk.keep ?_ (by with_reducible assumption)) | (refine Blk.below ?_ (by with_reducible assumption) (by (first | omega | (simp; done) | (simp; omega)))))), by (repeat (first | (with_reducible assumption) | ((with_reducible refine Blk.new' ?_); focus (simp; done)) | (with_reducible refine Blk.alloc ?_ _) | (with_reducible refine Blk.drew ?_) | (with_reducible refine Blk.drewN ?_ _) | ((with_reducible refine Blk.far ?_ ?_ _); rotate_left; focus (first | omega | (simp; done) | (simp; omega))) | (refine Blk.keep ?_ (by with_reducible assumption)) | (refine Blk.below ?_ (by with_reducible assumption) (by (first | omega | (simp; done) | (simp; omega)))))), Lib.hid (by simpa using own_base hlit (by simp)), Lib.hid rfl⟩
  case round =>
    clear hlit hbw1 hb1 BK0 BK1 hc0 hf0 hl0 hc1 hf1 hl1
    obtain ⟨k, acc, A2, c2, hk, hacc, rfl, rfl, hb, hzr, BK0, BK1, HI, hinv⟩ := hrel
    have hc0 := BK0.cell; have hf0 := BK0.frozen; have hl0 := BK0.lt; have hc1 := BK1.cell; have hf1 := BK1.frozen; have hl1 := BK1.lt
    by_cases hlt : k < n
    rotate_left
    · have HY := Lib.hid (HRS.out acc (by rw [hinv.out, List.drop_of_length_le (by rw [Hn.out]; omega)]; rfl))
      have hir := HI.out
      go_wp2
      refine bodyPost_ret (v := .tuple #[.agg #[.slice A2 acc.length c2, .slice none 0 0], .bool true]) (by simp [results, Try.results33, go_sem, hc1, hf1]) rfl ⟨[.slice A2 acc.length c2, .slice none 0 0], by rw [HY.out.1], ?_, by (repeat (first | (with_reducible exact Below.refl _ _) | (with_reducible assumption) | ((with_reducible refine Below.setCell ?_ ?_ _); rotate_left; focus (first | omega | (simp; done) | (simp; omega))) | ((with_reducible refine Below.alloc ?_ ?_ _); rotate_left; focus (first | omega | (simp; done) | (simp; omega))) | (with_reducible refine Below.drew ?_) | (with_reducible refine below_drewN ?_ _) | (refine Below.trans ?_ (Below.mono (by with_reducible assumption) (by (first | omega | (simp; done) | (simp; omega)))))))⟩
      rw [HY.out.2]
      have hS := of_own_in_ByteS hir
      refine DiskR.own_wide (DiskR.own_off (of_own_Disk (x := ⟨acc, []⟩) hS (SlOwn.nil _ _ _ (fun _ => False)) (fun _ h => h) (fun _ h => h.elim) (fun _ _ h => h)) (by (repeat (first | (with_reducible exact Out.refl _ _) | (with_reducible assumption) | ((with_reducible refine Out.setCell ?_ ?_ _); rotate_left; focus (first | (refine Or.inl ?_; (first | omega | (simp; done) | (simp; omega))) | (refine Or.inr ?_; (first | omega | (simp; done) | (simp; omega))))) | (with_reducible refine Out.alloc ?_ _) | (with_reducible refine Out.drew ?_) | (with_reducible refine Out.drewN ?_ _) | (refine Out.step ?_ (by with_reducible assumption)))))) (inR_mono (by first | omega | (simp; done) | (simp; omega)) (by first | omega | (simp; done) | (simp; omega)))
    have hlx : k < rs.length := by rw [Hn.out]; exact hlt
    have HX := Lib.hid (List.getElem?_eq_getElem hlx)
    have HDr := Lib.hid (List.drop_eq_getElem_cons hlx)
    generalize rs[k]'hlx = r at HX HDr
    clear hlx
    obtain ⟨b, off, csr, rfl, hab, hrd, hcell⟩ := (hs.below hb (Nat.le_refl _)).elem HX.out
    have hrd2 := Lib.hid (fun (w' : World) (hb2 : Below wr.heap.size wr w') => RecordR.rd_keep (RecordR.rd_more hrd hb.size) hb2 hb2.size)
    obtain ⟨_, _, rfl, q0, q1⟩ := rd_Record hrd
    obtain ⟨R1, e1, rfl⟩ := q0.form
    obtain ⟨R2, e2, rfl⟩ := q1.form
    have hx0 : wr.cell? ⟨b, off + k * 3, none⟩ = some (.int .i64 r.Kind) := hcell 0 _ rfl
    have hx1 : wr.cell? ⟨b, off + k * 3 + 1, none⟩ = some (.slice R1 r.Nums.length e1) := hcell 1 _ rfl
    have hx2 : wr.cell? ⟨b, off + k * 3 + 2, none⟩ = some (.slice R2 r.Texts.length e2) := hcell 2 _ rfl
    clear hcell q0 q1 hrd
    have hle := frameB_le r
    go_wp2_with fail
    refine (HFr.out k r HX.out _ _ (hrd2.out _ (by (repeat (first | (with_reducible exact Below.refl _ _) | (with_reducible assumption) | ((with_reducible refine Below.setCell ?_ ?_ _); rotate_left; focus (first | omega | (simp; done) | (simp; omega))) | ((with_reducible refine Below.alloc ?_ ?_ _); rotate_left; focus (first | omega | (simp; done) | (simp; omega))) | (with_reducible refine Below.drew ?_) | (with_reducible refine below_drewN ?_ _) | (refine Below.trans ?_ (Below.mono (by with_reducible assumption) (by (first | omega | (simp; done) | (simp; omega)))))))))).mono ?_
    rintro e w2 ⟨AF, cF, rfl, ho2, hb2⟩
    have hbr2 : Below wr.heap.size wr w2 := by (repeat (first | (with_reducible exact Below.refl _ _) | (with_reducible assumption) | ((with_reducible refine Below.setCell ?_ ?_ _); rotate_left; focus (first | omega | (simp; done) | (simp; omega))) | ((with_reducible refine Below.alloc ?_ ?_ _); rotate_left; focus (first | omega | (simp; done) | (simp; omega))) | (with_reducible refine Below.drew ?_) | (with_reducible refine below_drewN ?_ _) | (refine Below.trans ?_ (Below.mono (by with_reducible assumption) (by (first | omega | (simp; done) | (simp; omega)))))))
    have hz2 := hb2.size; try simp at hz2
    replace BK0 : Blk w2 w.heap.size 44 #[.slice A0 d.Safe.length c0, .slice A1 d.Loose.length c1] := by (repeat (first | (with_reducible assumption) | ((with_reducible refine Blk.new' ?_); focus (simp; done)) | (with_reducible refine Blk.alloc ?_ _) | (with_reducible refine Blk.drew ?_) | (with_reducible refine Blk.drewN ?_ _) | ((with_reducible refine Blk.far ?_ ?_ _); rotate_left; focus (first | omega | (simp; done) | (simp; omega))) | (refine Blk.keep ?_ (by with_reducible assumption)) | (refine Blk.below ?_ (by with_reducible assumption) (by (first | omega | (simp; done) | (simp; omega))))))
    replace hc0 := BK0.cell; replace hf0 := BK0.frozen; replace hl0 := BK0.lt
    replace BK1 : Blk w2 (w.heap.size + 1) 44 #[.slice none 0 0, .slice none 0 0] := by (repeat (first | (with_reducible assumption) | ((with_reducible refine Blk.new' ?_); focus (simp; done)) | (with_reducible refine Blk.alloc ?_ _) | (with_reducible refine Blk.drew ?_) | (with_reducible refine Blk.drewN ?_ _) | ((with_reducible refine Blk.far ?_ ?_ _); rotate_left; focus (first | omega | (simp; done) | (simp; omega))) | (refine Blk.keep ?_ (by with_reducible assumption)) | (refine Blk.below ?_ (by with_reducible assumption) (by (first | omega | (simp; done) | (simp; omega))))))
    replace hc1 := BK1.cell; replace hf1 := BK1.frozen; replace hl1 := BK1.lt
    have HSt : Hid (rewA rs [] = match encOk r && decide (acc.length + (frameB r).length ≤ 40000) with | true => rewA (rs.drop (k + 1)) (acc ++ frameB r) | false => none) := Lib.hid (by rw [hinv.out, HDr.out, rewA]; rfl)
    cases he : encOk r
    · have HN := Lib.hid (HRN.out (by rw [HSt.out, he]; rfl))
      clear HSt he
      go_wp2_with fail
      refine (HCp.out _ (HR.out _ (by (repeat (first | (with_reducible exact Below.refl _ _) | (with_reducible assumption) | ((with_reducible refine Below.setCell ?_ ?_ _); rotate_left; focus (first | omega | (simp; done) | (simp; omega))) | ((with_reducible refine Below.alloc ?_ ?_ _); rotate_left; focus (first | omega | (simp; done) | (simp; omega))) | (with_reducible refine Below.drew ?_) | (with_reducible refine below_drewN ?_ _) | (refine Below.trans ?_ (Below.mono (by with_reducible assumption) (by (first | omega | (simp; done) | (simp; omega)))))))) (by first | omega | (simp; done) | (simp; omega)))).mono ?_
      rintro e w3 ⟨cs3, rfl, ho3, hb3⟩
      have hz3 := hb3.size; try simp at hz3
      replace BK0 : Blk w3 w.heap.size 44 #[.slice A0 d.Safe.length c0, .slice A1 d.Loose.length c1] := by (repeat (first | (with_reducible assumption) | ((with_reducible refine Blk.new' ?_); focus (simp; done)) | (with_reducible refine Blk.alloc ?_ _) | (with_reducible refine Blk.drew ?_) | (with_reducible refine Blk.drewN ?_ _) | ((with_reducible refine Blk.far ?_ ?_ _); rotate_left; focus (first | omega | (simp; done) | (simp; omega))) | (refine Blk.keep ?_ (by with_reducible assumption)) | (refine Blk.below ?_ (by with_reducible assumption) (by (first | omega | (simp; done) | (simp; omega))))))
      replace hc0 := BK0.cell; replace hf0 := BK0.frozen; replace hl0 := BK0.lt
      replace BK1 : Blk w3 (w.heap.size + 1) 44 #[.slice none 0 0, .slice none 0 0] := by (repeat (first | (with_reducible assumption) | ((with_reducible refine Blk.new' ?_); focus (simp; done)) | (with_reducible refine Blk.alloc ?_ _) | (with_reducible refine Blk.drew ?_) | (with_reducible refine Blk.drewN ?_ _) | ((with_reducible refine Blk.far ?_ ?_ _); rotate_left; focus (first | omega | (simp; done) | (simp; omega))) | (refine Blk.keep ?_ (by with_reducible assumption)) | (refine Blk.below ?_ (by with_reducible assumption) (by (first | omega | (simp; done) | (simp; omega))))))
      replace hc1 := BK1.cell; replace hf1 := BK1.frozen; replace hl1 := BK1.lt
      obtain ⟨_, _, _, _, rfl, p0, p1, -⟩ := own_Disk (_root_.id ho3)
      obtain ⟨D0, d0, rfl⟩ := p0.form
      obtain ⟨D1, d1, rfl⟩ := p1.form
      go_wp2
      refine bodyPost_ret (v := .tuple #[.agg #[.slice D0 d.Safe.length d0, .slice D1 d.Loose.length d1], .bool false]) (by simp [results, Try.results33, go_sem, hc1, hf1]) rfl ⟨[.slice D0 d.Safe.length d0, .slice D1 d.Loose.length d1], by rw [HN.out.1], ?_, by (repeat (first | (with_reducible exact Below.refl _ _) | (with_reducible assumption) | ((with_reducible refine Below.setCell ?_ ?_ _); rotate_left; focus (first | omega | (simp; done) | (simp; omega))) | ((with_reducible refine Below.alloc ?_ ?_ _); rotate_left; focus (first | omega | (simp; done) | (simp; omega))) | (with_reducible refine Below.drew ?_) | (with_reducible refine below_drewN ?_ _) | (refine Below.trans ?_ (Below.mono (by with_reducible assumption) (by (first | omega | (simp; done) | (simp; omega)))))))⟩
      rw [HN.out.2]
      exact DiskR.own_wide (DiskR.own_off ho3 (by (repeat (first | (with_reducible exact Out.refl _ _) | (with_reducible assumption) | ((with_reducible refine Out.setCell ?_ ?_ _); rotate_left; focus (first | (refine Or.inl ?_; (first | omega | (simp; done) | (simp; omega))) | (refine Or.inr ?_; (first | omega | (simp; done) | (simp; omega))))) | (with_reducible refine Out.alloc ?_ _) | (with_reducible refine Out.drew ?_) | (with_reducible refine Out.drewN ?_ _) | (refine Out.step ?_ (by with_reducible assumption)))))) (inR_mono (by first | omega | (simp; done) | (simp; omega)) (by first | omega | (simp; done) | (simp; omega)))
    by_cases hfit : acc.length + (frameB r).length ≤ 40000
    rotate_left
    · have HN := Lib.hid (HRN.out (by rw [HSt.out, he, decide_eq_false hfit]; rfl))
      clear HSt he
      go_wp2_with fail
      refine (HCp.out _ (HR.out _ (by (repeat (first | (with_reducible exact Below.refl _ _) | (with_reducible assumption) | ((with_reducible refine Below.setCell ?_ ?_ _); rotate_left; focus (first | omega | (simp; done) | (simp; omega))) | ((with_reducible refine Below.alloc ?_ ?_ _); rotate_left; focus (first | omega | (simp; done) | (simp; omega))) | (with_reducible refine Below.drew ?_) | (with_reducible refine below_drewN ?_ _) | (refine Below.trans ?_ (Below.mono (by with_reducible assumption) (by (first | omega | (simp; done) | (simp; omega)))))))) (by first | omega | (simp; done) | (simp; omega)))).mono ?_
      rintro e w3 ⟨cs3, rfl, ho3, hb3⟩
      have hz3 := hb3.size; try simp at hz3
      replace BK0 : Blk w3 w.heap.size 44 #[.slice A0 d.Safe.length c0, .slice A1 d.Loose.length c1] := by (repeat (first | (with_reducible assumption) | ((with_reducible refine Blk.new' ?_); focus (simp; done)) | (with_reducible refine Blk.alloc ?_ _) | (with_reducible refine Blk.drew ?_) | (with_reducible refine Blk.drewN ?_ _) | ((with_reducible refine Blk.far ?_ ?_ _); rotate_left; focus (first | omega | (simp; done) | (simp; omega))) | (refine Blk.keep ?_ (by with_reducible assumption)) | (refine Blk.below ?_ (by with_reducible assumption) (by (first | omega | (simp; done) | (simp; omega))))))
      replace hc0 := BK0.cell; replace hf0 := BK0.frozen; replace hl0 := BK0.lt
      replace BK1 : Blk w3 (w.heap.size + 1) 44 #[.slice none 0 0, .slice none 0 0] := by (repeat (first | (with_reducible assumption) | ((with_reducible refine Blk.new' ?_); focus (simp; done)) | (with_reducible refine Blk.alloc ?_ _) | (with_reducible refine Blk.drew ?_) | (with_reducible refine Blk.drewN ?_ _) | ((with_reducible refine Blk.far ?_ ?_ _); rotate_left; focus (first | omega | (simp; done) | (simp; omega))) | (refine Blk.keep ?_ (by with_reducible assumption)) | (refine Blk.below ?_ (by with_reducible assumption) (by (first | omega | (simp; done) | (simp; omega))))))
      replace hc1 := BK1.cell; replace hf1 := BK1.frozen; replace hl1 := BK1.lt
      obtain ⟨_, _, _, _, rfl, p0, p1, -⟩ := own_Disk (_root_.id ho3)
      obtain ⟨D0, d0, rfl⟩ := p0.form
      obtain ⟨D1, d1, rfl⟩ := p1.form
      go_wp2
      refine bodyPost_ret (v := .tuple #[.agg #[.slice D0 d.Safe.length d0, .slice D1 d.Loose.length d1], .bool false]) (by simp [results, Try.results33, go_sem, hc1, hf1]) rfl ⟨[.slice D0 d.Safe.length d0, .slice D1 d.Loose.length d1], by rw [HN.out.1], ?_, by (repeat (first | (with_reducible exact Below.refl _ _) | (with_reducible assumption) | ((with_reducible refine Below.setCell ?_ ?_ _); rotate_left; focus (first | omega | (simp; done) | (simp; omega))) | ((with_reducible refine Below.alloc ?_ ?_ _); rotate_left; focus (first | omega | (simp; done) | (simp; omega))) | (with_reducible refine Below.drew ?_) | (with_reducible refine below_drewN ?_ _) | (refine Below.trans ?_ (Below.mono (by with_reducible assumption) (by (first | omega | (simp; done) | (simp; omega)))))))⟩
      rw [HN.out.2]
      exact DiskR.own_wide (DiskR.own_off ho3 (by (repeat (first | (with_reducible exact Out.refl _ _) | (with_reducible assumption) | ((with_reducible refine Out.setCell ?_ ?_ _); rotate_left; focus (first | (refine Or.inl ?_; (first | omega | (simp; done) | (simp; omega))) | (refine Or.inr ?_; (first | omega | (simp; done) | (simp; omega))))) | (with_reducible refine Out.alloc ?_ _) | (with_reducible refine Out.drew ?_) | (with_reducible refine Out.drewN ?_ _) | (refine Out.step ?_ (by with_reducible assumption)))))) (inR_mono (by first | omega | (simp; done) | (simp; omega)) (by first | omega | (simp; done) | (simp; omega)))
    have HG : Hid (rewA rs [] = rewA (rs.drop (k + 1)) (acc ++ frameB r)) := Lib.hid (by rw [HSt.out, he, decide_eq_true hfit]; rfl)
    have hir0 := own_below HI.out hbr2
    have hirlt0 : ∀ q, (Value.slice A2 acc.length c2).ownBlock = some q → w.heap.size + 2 ≤ q ∧ q < wr.heap.size := fun q e => HI.out.lt q e
    have hrF := Reads.of_own ho2
    clear HSt he
    generalize frameB r = F at *
    generalize hF : F.length = m at *
    have HFl := Lib.hid hF
    clear hF
    have hbw2 : Below w.heap.size w w2 := hb.trans (hbr2.mono hb.size)
    have hdis : ∀ q, (Value.slice AF m cF).ownBlock = some q → (Value.slice A2 acc.length c2).ownBlock ≠ some q := fun q e e2 => by have h1 := (ho2.lt q e).1; have h2 := (hirlt0 q e2).2; have h3 := hbr2.size; omega
    clear hb2 hrd2
    go_wp2
    go_loopw [6, 10] (fun sl j w4 => ∃ (q : Nat) (A4 : Option Addr) (c4 : Nat), q ≤ m ∧ j = .int .i64 q ∧ sl = .slice A4 (acc.length + q) c4 ∧ Below w.heap.size w w4 ∧ w2.heap.size ≤ w4.heap.size ∧ Blk w4 w.heap.size 44 #[.slice A0 d.Safe.length c0, .slice A1 d.Loose.length c1] ∧ Blk w4 (w.heap.size + 1) 44 #[.slice none 0 0, .slice none 0 0] ∧ Reads w4 w2.heap.size AF (F.map byteV) ∧ Hid (∀ z, (Value.slice AF m cF).ownBlock = some z → (Value.slice A4 (acc.length + q) c4).ownBlock ≠ some z) ∧ Hid (w4.ownsRow (w.heap.size + 2) 5 1 (.slice A4 (acc.length + q) c4) (acc.length + q) ((acc ++ F.take q).map byteV))) (fun _ j _ => m - (intOf j).toNat)
    case atStart => exact ⟨0, A2, c2, Nat.zero_le _, rfl, by simp, hbw2, Nat.le_refl _, BK0, BK1, hrF, Lib.hid (by simpa using hdis), Lib.hid (by simpa using hir0)⟩
    case round =>
      clear hc0 hf0 hl0 hc1 hf1 hl1 BK0 BK1 hdis hir0 hrF
      obtain ⟨q, A4, c4, hq, rfl, rfl, hb4, hz4, BK0, BK1, hrF, HDis, HI4⟩ := hrel
      have hc0 := BK0.cell; have hc1 := BK1.cell; have hf1 := BK1.frozen
      by_cases hql : q < m
      rotate_left
      · obtain rfl : q = m := by omega
        go_wp2
        go_roundw
        case rel =>
          refine ⟨k + 1, acc ++ F, A4, c4, by omega, by rw [List.length_append, HFl.out]; exact hfit, by go_num, by rw [List.length_append, HFl.out], hb4, by omega, BK0, BK1, Lib.hid ?_, Lib.hid HG.out⟩
          have h5 := HI4.out
          rw [List.take_of_length_le (by rw [HFl.out]; exact Nat.le_refl _)] at h5
          rw [List.length_append, HFl.out]
          exact h5
        case measure => simp [intOf]; omega
      have hqx : q < F.length := by rw [HFl.out]; exact hql
      obtain ⟨bF, oF, rfl, hbF, hy⟩ := hrF.at_ (k := q) (by rw [List.length_map]; exact hqx) (Below.refl _ _) (Nat.le_refl _)
      rw [List.getElem_map] at hy
      have HYt := Lib.hid (List.getElem?_eq_getElem hqx)
      generalize F[q]'hqx = y at hy HYt
      simp only [byteV] at hy
      clear hqx
      have hir := HI4.out
      have hirlt : ∀ q', (Value.slice A4 (acc.length + q) c4).ownBlock = some q' → w.heap.size + 2 ≤ q' ∧ q' < wr.heap.size := fun q' e => hir.lt q' e
      have hbl : bF < wr.heap.size := by omega
      have hFown : (Value.slice (some ⟨bF, oF, none⟩) m cF).ownBlock = some bF := rfl
      go_wp2_with (first | (at_builtin; go_loud (refine wpList_append_own_at _ rfl _ _ 22 rfl (w.heap.size + 2) 5 i0 (.int .u8 0) 1 1 Try.underlying22 hi0 hI0 hI1 hI2 rfl (by decide) _ _ _ rfl (hir.alloc _) ⟨wr.heap.size, 0, none⟩ 1 1 [.int .u8 y.toNat] rfl rfl ?c1 ?c2 ?c3 ?c4 ?c5 ?_; (case c1 => exact cell_one_new _ _ _); (case c2 => simp [byteV, Value.oneCell']); (case c3 => (simp only [maxLen]; omega)); (case c4 => omega); (case c5 => (simp; omega)); intro v' wA hown1 hgrow hnil hat; obtain ⟨gg, cap, rfl, hg1, hg2'⟩ := hown1.form (by omega))))
      go_roundw
      case rel =>
        have hzg := hgrow.size
        have hzg2 : wr.heap.size + 1 ≤ wA.heap.size := by simpa using hzg
        have hbA : Below w.heap.size w (wr.alloc (.cells #[.int .u8 y.toNat] 5)) := Below.alloc hb4 (by omega) _
        have hne : ∀ q', q' < w.heap.size + 2 → some q' ≠ (Value.slice A4 (acc.length + q) c4).ownBlock := fun q' hq' e => by have := (hirlt _ e.symm).1; omega
        have hat2 : (Value.slice A4 (acc.length + q) c4).ownBlock = some gg ∨ gg = wr.heap.size + 1 := by
          rcases hat with h | h
          · have h2 : (Value.slice A4 (acc.length + q) c4).ownBlock = (Value.slice (some ⟨gg, 0, none⟩) (acc.length + q + 1) cap).ownBlock := h.symm
            exact Or.inl (by rw [h2]; simp [Value.ownBlock])
          · exact Or.inr (by simpa [Value.ownBlock] using h)
        refine ⟨q + 1, some ⟨gg, 0, none⟩, cap, by omega, by go_num, rfl, ?_, by omega, ?_, ?_, ?_, Lib.hid ?_, Lib.hid ?_⟩
        · exact Below.grown hbA hgrow (by simp; omega) (fun q' e => by have := hirlt q' e; omega)
        · exact (BK0.alloc _).grown hgrow (hne _ (by omega))
        · exact (BK1.alloc _).grown hgrow (hne _ (by omega))
        · intro h0
          obtain ⟨b', o', e1, e2, e3⟩ := hrF h0
          simp only [Option.some.injEq, Addr.mk.injEq, and_true] at e1
          obtain ⟨rfl, rfl⟩ := e1
          refine ⟨bF, oF, rfl, e2, fun j u hu => ?_⟩
          have e4 := e3 j u hu
          have e5 : wA.heap[bF]? = (wr.alloc (.cells #[.int .u8 y.toNat] 5)).heap[bF]? := hgrow.block bF (by simp; omega) (fun e => HDis.out bF hFown e.symm)
          have e6 : (wr.alloc (.cells #[.int .u8 y.toNat] 5)).heap[bF]? = wr.heap[bF]? := Below.heap_alloc wr _ bF hbl
          rw [cell_of_heap (e5.trans e6)]; exact e4
        · intro q' hq' e
          have e2 : gg = q' := by simpa [Value.ownBlock] using e
          rcases hat2 with h | h
          · exact HDis.out q' hq' (by rw [h, e2])
          · have e7 : bF = q' := by simpa [Value.ownBlock] using hq'
            omega
        · rw [take_snoc HYt.out, ← List.append_assoc, List.map_append]
          exact hown1
      case measure => simp [intOf]; omega
end Go.Proofs.Ytgaenfkjobkmjaa

/- AppendLog, both sides. -/
import Derived.Test.YtpilgfcdffledaaFrameL
import Derived.Test.YtpilgfcdffledaaLog2
namespace Go.Proofs.Ytpilgfcdffledaa
open Go.RowKit
def fitB (d : Disk) (n : Nat) : Bool := decide (d.Safe.length + d.Loose.length + n ≤ 40000)
def appB (d : Disk) (r : Record) : Bool := d.ok && (encOk r && fitB d (frameB r).length)
def appD (d : Disk) (r : Record) : Disk := match appB d r with | true => ⟨d.Safe, d.Loose ++ frameB r⟩ | false => d
theorem appD_yes {d : Disk} {r : Record} (h : appB d r = true) : appD d r = ⟨d.Safe, d.Loose ++ frameB r⟩ := by unfold appD; rw [h]
theorem appD_no {d : Disk} {r : Record} (h : appB d r = false) : appD d r = d := by unfold appD; rw [h]
theorem appD_sz (d : Disk) (r : Record) : DiskR.sz (appD d r) ≤ DiskR.sz d + 4006 := by
  cases h : appB d r
  · rw [appD_no h]; omega
  · have := frameB_le r
    rw [appD_yes h, sz_Disk, sz_Disk]; simp only [sz_ByteS, List.length_append]; omega
theorem ok_app (d : Disk) (b : List UInt8) : Disk.ok ⟨d.Safe, d.Loose ++ b⟩ = fitB d b.length := by unfold Disk.ok fitB; simp only [List.length_append, Nat.add_assoc]
theorem own_setCell_off {w : World} {base : Nat} {e : TypeId} {size n : Nat} {v : Value} {xs : List Value} (h : w.ownsRow base e size v n xs) {a : Addr} (ha : ∀ g, v.ownBlock = some g → g ≠ a.block) (u : Value) : (w.setCell a u).ownsRow base e size v n xs := by
  refine ⟨h.1, ?_⟩
  rcases h.2 with hn | ⟨g, cap, cur, rfl, h0, hg, rest⟩
  · exact .inl hn
  · exact .inr ⟨g, cap, cur, rfl, h0, by rw [Below.heap_setCell w a u g (ha g rfl)]; exact hg, rest⟩
set_option maxHeartbeats 3200000 in
theorem spec_AppendLog (cs0 : List Value) (d : Disk) (cs1 : List Value) (r : Record) (w : World) (h0 : DiskR.Rd w w.heap.size cs0 d) (h1 : RecordR.Rd w w.heap.size cs1 r) (m0 : DiskR.sz d ≤ 1048576) (m1 : RecordR.sz r ≤ 1048576) :
    Calls Try.prog 25 #[.agg cs0.toArray, .agg cs1.toArray] w fun e w' => ∃ cs', e = .returned (.tuple #[.agg cs'.toArray, .bool (appB d r)]) ∧ DiskR.Own w' (InR w.heap.size w'.heap.size) cs' (appD d r) ∧ Below w.heap.size w w' := by
  obtain ⟨v0, v1, rfl, q0, q1⟩ := rd_Disk h0
  obtain ⟨A0, c0, rfl⟩ := q0.form
  obtain ⟨A1, c1, rfl⟩ := q1.form
  obtain ⟨v2, v3, rfl, q2, q3⟩ := rd_Record h1
  obtain ⟨A2, c2, rfl⟩ := q2.form
  obtain ⟨A3, c3, rfl⟩ := q3.form
  have hl := len_sz_Disk m0
  have hfb := frameB_le r
  have r0 := (rd_ByteS q0).2.1
  have r1 := (rd_ByteS q1).2.1
  have HF := Lib.hid (fun w' hr => spec_FrameRecord [.int .i64 r.Kind, .slice A2 r.Nums.length c2, .slice A3 r.Texts.length c3] r w' hr m1)
  have HD := Lib.hid (fun w' hr => spec_DiskOk [.slice A0 d.Safe.length c0, .slice A1 d.Loose.length c1] d w' hr m0)
  have HC := Lib.hid (fun w' hr => spec_l06Copy [.slice A0 d.Safe.length c0, .slice A1 d.Loose.length c1] d w' hr m0)
  have hok := ok_app d (frameB r)
  have hb : appB d r = (d.ok && (encOk r && fitB d (frameB r).length)) := rfl
  cases hd : d.ok <;> rw [hd] at hb HD <;> (try rw [Bool.false_and] at hb) <;> (try rw [Bool.true_and] at hb)
  · rw [appD_no hb, hb]
    generalize encOk r = E at *
    generalize frameB r = b at *
    clear hok hb hd
    go_enter Try.func25, Try.ntmps25
    go_wp2_with fail
    refine (HF.out _ (RecordR.rd_keep h1 (by (repeat (first | (with_reducible exact Below.refl _ _) | (with_reducible assumption) | ((with_reducible refine Below.setCell ?_ ?_ _); rotate_left; focus (first | omega | (simp; done) | (simp; omega))) | ((with_reducible refine Below.alloc ?_ ?_ _); rotate_left; focus (first | omega | (simp; done) | (simp; omega))) | (with_reducible refine Below.drew ?_) | (with_reducible refine below_drewN ?_ _) | (refine Below.trans ?_ (Below.mono (by with_reducible assumption) (by (first | omega | (simp; done) | (simp; omega)))))))) (by first | omega | (simp; done) | (simp; omega)))).mono ?_
    rintro e w1 ⟨D, dd, rfl, ho, hb1⟩
    have hz1 := hb1.size; try simp at hz1
    have BK0 : Blk w1 w.heap.size 44 #[.slice A0 d.Safe.length c0, .slice A1 d.Loose.length c1] := by (repeat (first | (with_reducible assumption) | ((with_reducible refine Blk.new' ?_); focus (simp; done)) | (with_reducible refine Blk.alloc ?_ _) | (with_reducible refine Blk.drew ?_) | (with_reducible refine Blk.drewN ?_ _) | ((with_reducible refine Blk.far ?_ ?_ _); rotate_left; focus (first | omega | (simp; done) | (simp; omega))) | (refine Blk.keep ?_ (by with_reducible assumption)) | (refine Blk.below ?_ (by with_reducible assumption) (by (first | omega | (simp; done) | (simp; omega))))))
    have BK1 : Blk w1 (w.heap.size + 2) 44 #[.slice none 0 0, .slice none 0 0] := by (repeat (first | (with_reducible assumption) | ((with_reducible refine Blk.new' ?_); focus (simp; done)) | (with_reducible refine Blk.alloc ?_ _) | (with_reducible refine Blk.drew ?_) | (with_reducible refine Blk.drewN ?_ _) | ((with_reducible refine Blk.far ?_ ?_ _); rotate_left; focus (first | omega | (simp; done) | (simp; omega))) | (refine Blk.keep ?_ (by with_reducible assumption)) | (refine Blk.below ?_ (by with_reducible assumption) (by (first | omega | (simp; done) | (simp; omega))))))
    have hc0 := BK0.cell; have hf0 := BK0.frozen; have hl0 := BK0.lt; have hc1 := BK1.cell; have hf1 := BK1.frozen; have hl1 := BK1.lt
    go_wp2_with fail
    refine (HD.out _ (DiskR.rd_keep h0 (by (repeat (first | (with_reducible exact Below.refl _ _) | (with_reducible assumption) | ((with_reducible refine Below.setCell ?_ ?_ _); rotate_left; focus (first | omega | (simp; done) | (simp; omega))) | ((with_reducible refine Below.alloc ?_ ?_ _); rotate_left; focus (first | omega | (simp; done) | (simp; omega))) | (with_reducible refine Below.drew ?_) | (with_reducible refine below_drewN ?_ _) | (refine Below.trans ?_ (Below.mono (by with_reducible assumption) (by (first | omega | (simp; done) | (simp; omega)))))))) (by first | omega | (simp; done) | (simp; omega)))).mono ?_
    rintro e w2 ⟨rfl, hb2⟩
    have hz2 := hb2.size; try simp at hz2
    replace BK0 : Blk w2 w.heap.size 44 #[.slice A0 d.Safe.length c0, .slice A1 d.Loose.length c1] := by (repeat (first | (with_reducible assumption) | ((with_reducible refine Blk.new' ?_); focus (simp; done)) | (with_reducible refine Blk.alloc ?_ _) | (with_reducible refine Blk.drew ?_) | (with_reducible refine Blk.drewN ?_ _) | ((with_reducible refine Blk.far ?_ ?_ _); rotate_left; focus (first | omega | (simp; done) | (simp; omega))) | (refine Blk.keep ?_ (by with_reducible assumption)) | (refine Blk.below ?_ (by with_reducible assumption) (by (first | omega | (simp; done) | (simp; omega))))))
    replace BK1 : Blk w2 (w.heap.size + 2) 44 #[.slice none 0 0, .slice none 0 0] := by (repeat (first | (with_reducible assumption) | ((with_reducible refine Blk.new' ?_); focus (simp; done)) | (with_reducible refine Blk.alloc ?_ _) | (with_reducible refine Blk.drew ?_) | (with_reducible refine Blk.drewN ?_ _) | ((with_reducible refine Blk.far ?_ ?_ _); rotate_left; focus (first | omega | (simp; done) | (simp; omega))) | (refine Blk.keep ?_ (by with_reducible assumption)) | (refine Blk.below ?_ (by with_reducible assumption) (by (first | omega | (simp; done) | (simp; omega))))))
    replace hc0 := BK0.cell; replace hf0 := BK0.frozen; replace hl0 := BK0.lt; replace hc1 := BK1.cell; replace hf1 := BK1.frozen; replace hl1 := BK1.lt
    go_wp2_with fail
    refine (HC.out _ (DiskR.rd_keep h0 (by (repeat (first | (with_reducible exact Below.refl _ _) | (with_reducible assumption) | ((with_reducible refine Below.setCell ?_ ?_ _); rotate_left; focus (first | omega | (simp; done) | (simp; omega))) | ((with_reducible refine Below.alloc ?_ ?_ _); rotate_left; focus (first | omega | (simp; done) | (simp; omega))) | (with_reducible refine Below.drew ?_) | (with_reducible refine below_drewN ?_ _) | (refine Below.trans ?_ (Below.mono (by with_reducible assumption) (by (first | omega | (simp; done) | (simp; omega)))))))) (by first | omega | (simp; done) | (simp; omega)))).mono ?_
    rintro e w3 ⟨cs', rfl, ho3, hb3⟩
    have hz3 := hb3.size; try simp at hz3
    replace BK1 : Blk w3 (w.heap.size + 2) 44 #[.slice none 0 0, .slice none 0 0] := by (repeat (first | (with_reducible assumption) | ((with_reducible refine Blk.new' ?_); focus (simp; done)) | (with_reducible refine Blk.alloc ?_ _) | (with_reducible refine Blk.drew ?_) | (with_reducible refine Blk.drewN ?_ _) | ((with_reducible refine Blk.far ?_ ?_ _); rotate_left; focus (first | omega | (simp; done) | (simp; omega))) | (refine Blk.keep ?_ (by with_reducible assumption)) | (refine Blk.below ?_ (by with_reducible assumption) (by (first | omega | (simp; done) | (simp; omega))))))
    replace hc1 := BK1.cell; replace hf1 := BK1.frozen; replace hl1 := BK1.lt
    clear hc0 hf0 hl0 BK0
    obtain ⟨_, _, _, _, rfl, p0, p1, -⟩ := own_Disk ho3
    obtain ⟨D0, d0, rfl⟩ := p0.form
    obtain ⟨D1, d1, rfl⟩ := p1.form
    go_wp2
    refine bodyPost_ret (v := .tuple #[.agg #[.slice D0 d.Safe.length d0, .slice D1 d.Loose.length d1], .bool false]) (by simp [results, Try.results25, go_sem, hc1, hf1]) rfl ⟨[.slice D0 d.Safe.length d0, .slice D1 d.Loose.length d1], rfl, ?_, by (repeat (first | (with_reducible exact Below.refl _ _) | (with_reducible assumption) | ((with_reducible refine Below.setCell ?_ ?_ _); rotate_left; focus (first | omega | (simp; done) | (simp; omega))) | ((with_reducible refine Below.alloc ?_ ?_ _); rotate_left; focus (first | omega | (simp; done) | (simp; omega))) | (with_reducible refine Below.drew ?_) | (with_reducible refine below_drewN ?_ _) | (refine Below.trans ?_ (Below.mono (by with_reducible assumption) (by (first | omega | (simp; done) | (simp; omega)))))))⟩
    exact DiskR.own_wide (DiskR.own_off ho3 (by (repeat (first | (with_reducible exact Out.refl _ _) | (with_reducible assumption) | ((with_reducible refine Out.setCell ?_ ?_ _); rotate_left; focus (first | (refine Or.inl ?_; (first | omega | (simp; done) | (simp; omega))) | (refine Or.inr ?_; (first | omega | (simp; done) | (simp; omega))))) | (with_reducible refine Out.alloc ?_ _) | (with_reducible refine Out.drew ?_) | (with_reducible refine Out.drewN ?_ _) | (refine Out.step ?_ (by with_reducible assumption)))))) (inR_mono (by first | omega | (simp; done) | (simp; omega)) (by first | omega | (simp; done) | (simp; omega)))
  · cases he : encOk r <;> rw [he] at hb HF <;> (try rw [Bool.false_and] at hb) <;> (try rw [Bool.true_and] at hb)
    · rw [appD_no hb, hb]
      generalize frameB r = b at *
      clear hok hb hd
      go_enter Try.func25, Try.ntmps25
      go_wp2_with fail
      refine (HF.out _ (RecordR.rd_keep h1 (by (repeat (first | (with_reducible exact Below.refl _ _) | (with_reducible assumption) | ((with_reducible refine Below.setCell ?_ ?_ _); rotate_left; focus (first | omega | (simp; done) | (simp; omega))) | ((with_reducible refine Below.alloc ?_ ?_ _); rotate_left; focus (first | omega | (simp; done) | (simp; omega))) | (with_reducible refine Below.drew ?_) | (with_reducible refine below_drewN ?_ _) | (refine Below.trans ?_ (Below.mono (by with_reducible assumption) (by (first | omega | (simp; done) | (simp; omega)))))))) (by first | omega | (simp; done) | (simp; omega)))).mono ?_
      rintro e w1 ⟨D, dd, rfl, ho, hb1⟩
      have hz1 := hb1.size; try simp at hz1
      have BK0 : Blk w1 w.heap.size 44 #[.slice A0 d.Safe.length c0, .slice A1 d.Loose.length c1] := by (repeat (first | (with_reducible assumption) | ((with_reducible refine Blk.new' ?_); focus (simp; done)) | (with_reducible refine Blk.alloc ?_ _) | (with_reducible refine Blk.drew ?_) | (with_reducible refine Blk.drewN ?_ _) | ((with_reducible refine Blk.far ?_ ?_ _); rotate_left; focus (first | omega | (simp; done) | (simp; omega))) | (refine Blk.keep ?_ (by with_reducible assumption)) | (refine Blk.below ?_ (by with_reducible assumption) (by (first | omega | (simp; done) | (simp; omega))))))
      have BK1 : Blk w1 (w.heap.size + 2) 44 #[.slice none 0 0, .slice none 0 0] := by (repeat (first | (with_reducible assumption) | ((with_reducible refine Blk.new' ?_); focus (simp; done)) | (with_reducible refine Blk.alloc ?_ _) | (with_reducible refine Blk.drew ?_) | (with_reducible refine Blk.drewN ?_ _) | ((with_reducible refine Blk.far ?_ ?_ _); rotate_left; focus (first | omega | (simp; done) | (simp; omega))) | (refine Blk.keep ?_ (by with_reducible assumption)) | (refine Blk.below ?_ (by with_reducible assumption) (by (first | omega | (simp; done) | (simp; omega))))))
      have hc0 := BK0.cell; have hf0 := BK0.frozen; have hl0 := BK0.lt; have hc1 := BK1.cell; have hf1 := BK1.frozen; have hl1 := BK1.lt
      go_wp2_with fail
      refine (HD.out _ (DiskR.rd_keep h0 (by (repeat (first | (with_reducible exact Below.refl _ _) | (with_reducible assumption) | ((with_reducible refine Below.setCell ?_ ?_ _); rotate_left; focus (first | omega | (simp; done) | (simp; omega))) | ((with_reducible refine Below.alloc ?_ ?_ _); rotate_left; focus (first | omega | (simp; done) | (simp; omega))) | (with_reducible refine Below.drew ?_) | (with_reducible refine below_drewN ?_ _) | (refine Below.trans ?_ (Below.mono (by with_reducible assumption) (by (first | omega | (simp; done) | (simp; omega)))))))) (by first | omega | (simp; done) | (simp; omega)))).mono ?_
      rintro e w2 ⟨rfl, hb2⟩
      have hz2 := hb2.size; try simp at hz2
      replace BK0 : Blk w2 w.heap.size 44 #[.slice A0 d.Safe.length c0, .slice A1 d.Loose.length c1] := by (repeat (first | (with_reducible assumption) | ((with_reducible refine Blk.new' ?_); focus (simp; done)) | (with_reducible refine Blk.alloc ?_ _) | (with_reducible refine Blk.drew ?_) | (with_reducible refine Blk.drewN ?_ _) | ((with_reducible refine Blk.far ?_ ?_ _); rotate_left; focus (first | omega | (simp; done) | (simp; omega))) | (refine Blk.keep ?_ (by with_reducible assumption)) | (refine Blk.below ?_ (by with_reducible assumption) (by (first | omega | (simp; done) | (simp; omega))))))
      replace BK1 : Blk w2 (w.heap.size + 2) 44 #[.slice none 0 0, .slice none 0 0] := by (repeat (first | (with_reducible assumption) | ((with_reducible refine Blk.new' ?_); focus (simp; done)) | (with_reducible refine Blk.alloc ?_ _) | (with_reducible refine Blk.drew ?_) | (with_reducible refine Blk.drewN ?_ _) | ((with_reducible refine Blk.far ?_ ?_ _); rotate_left; focus (first | omega | (simp; done) | (simp; omega))) | (refine Blk.keep ?_ (by with_reducible assumption)) | (refine Blk.below ?_ (by with_reducible assumption) (by (first | omega | (simp; done) | (simp; omega))))))
      replace hc0 := BK0.cell; replace hf0 := BK0.frozen; replace hl0 := BK0.lt; replace hc1 := BK1.cell; replace hf1 := BK1.frozen; replace hl1 := BK1.lt
      go_wp2_with fail
      refine (HC.out _ (DiskR.rd_keep h0 (by (repeat (first | (with_reducible exact Below.refl _ _) | (with_reducible assumption) | ((with_reducible refine Below.setCell ?_ ?_ _); rotate_left; focus (first | omega | (simp; done) | (simp; omega))) | ((with_reducible refine Below.alloc ?_ ?_ _); rotate_left; focus (first | omega | (simp; done) | (simp; omega))) | (with_reducible refine Below.drew ?_) | (with_reducible refine below_drewN ?_ _) | (refine Below.trans ?_ (Below.mono (by with_reducible assumption) (by (first | omega | (simp; done) | (simp; omega)))))))) (by first | omega | (simp; done) | (simp; omega)))).mono ?_
      rintro e w3 ⟨cs', rfl, ho3, hb3⟩
      have hz3 := hb3.size; try simp at hz3
      replace BK1 : Blk w3 (w.heap.size + 2) 44 #[.slice none 0 0, .slice none 0 0] := by (repeat (first | (with_reducible assumption) | ((with_reducible refine Blk.new' ?_); focus (simp; done)) | (with_reducible refine Blk.alloc ?_ _) | (with_reducible refine Blk.drew ?_) | (with_reducible refine Blk.drewN ?_ _) | ((with_reducible refine Blk.far ?_ ?_ _); rotate_left; focus (first | omega | (simp; done) | (simp; omega))) | (refine Blk.keep ?_ (by with_reducible assumption)) | (refine Blk.below ?_ (by with_reducible assumption) (by (first | omega | (simp; done) | (simp; omega))))))
      replace hc1 := BK1.cell; replace hf1 := BK1.frozen; replace hl1 := BK1.lt
      clear hc0 hf0 hl0 BK0
      obtain ⟨_, _, _, _, rfl, p0, p1, -⟩ := own_Disk ho3
      obtain ⟨D0, d0, rfl⟩ := p0.form
      obtain ⟨D1, d1, rfl⟩ := p1.form
      go_wp2
      refine bodyPost_ret (v := .tuple #[.agg #[.slice D0 d.Safe.length d0, .slice D1 d.Loose.length d1], .bool false]) (by simp [results, Try.results25, go_sem, hc1, hf1]) rfl ⟨[.slice D0 d.Safe.length d0, .slice D1 d.Loose.length d1], rfl, ?_, by (repeat (first | (with_reducible exact Below.refl _ _) | (with_reducible assumption) | ((with_reducible refine Below.setCell ?_ ?_ _); rotate_left; focus (first | omega | (simp; done) | (simp; omega))) | ((with_reducible refine Below.alloc ?_ ?_ _); rotate_left; focus (first | omega | (simp; done) | (simp; omega))) | (with_reducible refine Below.drew ?_) | (with_reducible refine below_drewN ?_ _) | (refine Below.trans ?_ (Below.mono (by with_reducible assumption) (by (first | omega | (simp; done) | (simp; omega)))))))⟩
      exact DiskR.own_wide (DiskR.own_off ho3 (by (repeat (first | (with_reducible exact Out.refl _ _) | (with_reducible assumption) | ((with_reducible refine Out.setCell ?_ ?_ _); rotate_left; focus (first | (refine Or.inl ?_; (first | omega | (simp; done) | (simp; omega))) | (refine Or.inr ?_; (first | omega | (simp; done) | (simp; omega))))) | (with_reducible refine Out.alloc ?_ _) | (with_reducible refine Out.drew ?_) | (with_reducible refine Out.drewN ?_ _) | (refine Out.step ?_ (by with_reducible assumption)))))) (inR_mono (by first | omega | (simp; done) | (simp; omega)) (by first | omega | (simp; done) | (simp; omega)))
    · have hjl : (d.Loose ++ frameB r).length = d.Loose.length + (frameB r).length := List.length_append
      have hJe : Hid (d.Loose ++ frameB r = d.Loose ++ frameB r) := rfl
      have hap := @appD_yes d r
      have hnp := @appD_no d r
      generalize hF : fitB d (frameB r).length = F at *
      generalize hb0 : appB d r = aB at *
      generalize frameB r = b at *
      have hbl : b.length ≤ 4006 := hfb
      have HJ := Lib.hid (fun (w' : World) (A : Option Addr) (c : Nat) (h1 : Reads w' w'.heap.size A1 (d.Loose.map byteV)) (h2 : Reads w' w'.heap.size A (b.map byteV)) => spec_l01Join A1 A c1 c d.Loose b w' h1 h2 (by omega) (by omega))
      have HS := Lib.hid (fun (w' : World) (h : Reads w' w'.heap.size A0 (d.Safe.map byteV)) => spec_l01Bytes A0 c0 d.Safe w' h (by omega))
      have HO := Lib.hid (fun (cs : List Value) w' hr => spec_DiskOk cs ⟨d.Safe, d.Loose ++ b⟩ w' hr (by have h40 : d.Safe.length + d.Loose.length ≤ 40000 := (by have hd' := hd; unfold Disk.ok at hd'; simpa using hd'); rw [sz_Disk]; simp only [sz_ByteS, List.length_append]; omega))
      rw [hok] at HO
      generalize hJ : d.Loose ++ b = J at *
      subst hb
      clear hok hd hF hjl
      go_enter Try.func25, Try.ntmps25
      go_wp2_with fail
      refine (HF.out _ (RecordR.rd_keep h1 (by (repeat (first | (with_reducible exact Below.refl _ _) | (with_reducible assumption) | ((with_reducible refine Below.setCell ?_ ?_ _); rotate_left; focus (first | omega | (simp; done) | (simp; omega))) | ((with_reducible refine Below.alloc ?_ ?_ _); rotate_left; focus (first | omega | (simp; done) | (simp; omega))) | (with_reducible refine Below.drew ?_) | (with_reducible refine below_drewN ?_ _) | (refine Below.trans ?_ (Below.mono (by with_reducible assumption) (by (first | omega | (simp; done) | (simp; omega)))))))) (by first | omega | (simp; done) | (simp; omega)))).mono ?_
      rintro e w1 ⟨D, dd, rfl, ho, hb1⟩
      have hz1 := hb1.size; try simp at hz1
      have BK0 : Blk w1 w.heap.size 44 #[.slice A0 d.Safe.length c0, .slice A1 d.Loose.length c1] := by (repeat (first | (with_reducible assumption) | ((with_reducible refine Blk.new' ?_); focus (simp; done)) | (with_reducible refine Blk.alloc ?_ _) | (with_reducible refine Blk.drew ?_) | (with_reducible refine Blk.drewN ?_ _) | ((with_reducible refine Blk.far ?_ ?_ _); rotate_left; focus (first | omega | (simp; done) | (simp; omega))) | (refine Blk.keep ?_ (by with_reducible assumption)) | (refine Blk.below ?_ (by with_reducible assumption) (by (first | omega | (simp; done) | (simp; omega))))))
      have BK1 : Blk w1 (w.heap.size + 2) 44 #[.slice none 0 0, .slice none 0 0] := by (repeat (first | (with_reducible assumption) | ((with_reducible refine Blk.new' ?_); focus (simp; done)) | (with_reducible refine Blk.alloc ?_ _) | (with_reducible refine Blk.drew ?_) | (with_reducible refine Blk.drewN ?_ _) | ((with_reducible refine Blk.far ?_ ?_ _); rotate_left; focus (first | omega | (simp; done) | (simp; omega))) | (refine Blk.keep ?_ (by with_reducible assumption)) | (refine Blk.below ?_ (by with_reducible assumption) (by (first | omega | (simp; done) | (simp; omega))))))
      have hc0 := BK0.cell; have hf0 := BK0.frozen; have hl0 := BK0.lt; have hc1 := BK1.cell; have hf1 := BK1.frozen; have hl1 := BK1.lt
      go_wp2_with fail
      refine (HD.out _ (DiskR.rd_keep h0 (by (repeat (first | (with_reducible exact Below.refl _ _) | (with_reducible assumption) | ((with_reducible refine Below.setCell ?_ ?_ _); rotate_left; focus (first | omega | (simp; done) | (simp; omega))) | ((with_reducible refine Below.alloc ?_ ?_ _); rotate_left; focus (first | omega | (simp; done) | (simp; omega))) | (with_reducible refine Below.drew ?_) | (with_reducible refine below_drewN ?_ _) | (refine Below.trans ?_ (Below.mono (by with_reducible assumption) (by (first | omega | (simp; done) | (simp; omega)))))))) (by first | omega | (simp; done) | (simp; omega)))).mono ?_
      rintro e w2 ⟨rfl, hb2⟩
      have hz2 := hb2.size; try simp at hz2
      replace BK0 : Blk w2 w.heap.size 44 #[.slice A0 d.Safe.length c0, .slice A1 d.Loose.length c1] := by (repeat (first | (with_reducible assumption) | ((with_reducible refine Blk.new' ?_); focus (simp; done)) | (with_reducible refine Blk.alloc ?_ _) | (with_reducible refine Blk.drew ?_) | (with_reducible refine Blk.drewN ?_ _) | ((with_reducible refine Blk.far ?_ ?_ _); rotate_left; focus (first | omega | (simp; done) | (simp; omega))) | (refine Blk.keep ?_ (by with_reducible assumption)) | (refine Blk.below ?_ (by with_reducible assumption) (by (first | omega | (simp; done) | (simp; omega))))))
      replace BK1 : Blk w2 (w.heap.size + 2) 44 #[.slice none 0 0, .slice none 0 0] := by (repeat (first | (with_reducible assumption) | ((with_reducible refine Blk.new' ?_); focus (simp; done)) | (with_reducible refine Blk.alloc ?_ _) | (with_reducible refine Blk.drew ?_) | (with_reducible refine Blk.drewN ?_ _) | ((with_reducible refine Blk.far ?_ ?_ _); rotate_left; focus (first | omega | (simp; done) | (simp; omega))) | (refine Blk.keep ?_ (by with_reducible assumption)) | (refine Blk.below ?_ (by with_reducible assumption) (by (first | omega | (simp; done) | (simp; omega))))))
      replace hc0 := BK0.cell; replace hf0 := BK0.frozen; replace hl0 := BK0.lt; replace hc1 := BK1.cell; replace hf1 := BK1.frozen; replace hl1 := BK1.lt
      have hrb := Reads.of_own ho
      go_wp2
      go_region_held3 (fun w' => w'.cell? ⟨w.heap.size, 0, none⟩ = some (.slice A0 d.Safe.length c0) ∧ w'.cell? ⟨w.heap.size, 1, none⟩ = some (.slice A1 d.Loose.length c1))
        (refine ⟨Blk.cell (t := 44) (cs := #[.slice A0 d.Safe.length c0, .slice A1 d.Loose.length c1]) ?_ 0, Blk.cell (t := 44) (cs := #[.slice A0 d.Safe.length c0, .slice A1 d.Loose.length c1]) ?_ 1⟩ <;> (repeat (first | (with_reducible assumption) | ((with_reducible refine Blk.new' ?_); focus (simp; done)) | (with_reducible refine Blk.alloc ?_ _) | (with_reducible refine Blk.drew ?_) | (with_reducible refine Blk.drewN ?_ _) | ((with_reducible refine Blk.far ?_ ?_ _); rotate_left; focus (first | omega | (simp; done) | (simp; omega))) | (refine Blk.keep ?_ (by with_reducible assumption)) | (refine Blk.below ?_ (by with_reducible assumption) (by (first | omega | (simp; done) | (simp; omega)))))))
        (first
        | (go_at_call 61; ((with_reducible refine (HS.out _ ?_).mono ?_); (focus exact (r0.keep (by (repeat (first | (with_reducible exact Below.refl _ _) | (with_reducible assumption) | ((with_reducible refine Below.setCell ?_ ?_ _); rotate_left; focus (first | omega | (simp; done) | (simp; omega))) | ((with_reducible refine Below.alloc ?_ ?_ _); rotate_left; focus (first | omega | (simp; done) | (simp; omega))) | (with_reducible refine Below.drew ?_) | (with_reducible refine below_drewN ?_ _) | (refine Below.trans ?_ (Below.mono (by with_reducible assumption) (by (first | omega | (simp; done) | (simp; omega)))))))) (by first | omega | (simp; done) | (simp; omega))))); rintro e wA ⟨D0, d0, rfl, ho0, hbA⟩; (have hzA := hbA.size; try simp at hzA); (try ((refine (fun BN1 : Blk wA w2.heap.size 44 #[.slice none 0 0, .slice none 0 0] => ?_ : Blk wA w2.heap.size 44 #[.slice none 0 0, .slice none 0 0] → _) ?_); (rotate_left; focus ((repeat (first | (with_reducible assumption) | ((with_reducible refine Blk.new' ?_); focus (simp; done)) | (with_reducible refine Blk.alloc ?_ _) | (with_reducible refine Blk.drew ?_) | (with_reducible refine Blk.drewN ?_ _) | ((with_reducible refine Blk.far ?_ ?_ _); rotate_left; focus (first | omega | (simp; done) | (simp; omega))) | (refine Blk.keep ?_ (by with_reducible assumption)) | (refine Blk.below ?_ (by with_reducible assumption) (by (first | omega | (simp; done) | (simp; omega)))))); done)); have hcN1 := BN1.cell; have hfN1 := BN1.frozen; have hlN1 := BN1.lt)))
        | (go_at_call 41; ((with_reducible refine (HJ.out _ _ _ ?_ ?_).mono ?_); (focus exact (r1.keep (by (repeat (first | (with_reducible exact Below.refl _ _) | (with_reducible assumption) | ((with_reducible refine Below.setCell ?_ ?_ _); rotate_left; focus (first | omega | (simp; done) | (simp; omega))) | ((with_reducible refine Below.alloc ?_ ?_ _); rotate_left; focus (first | omega | (simp; done) | (simp; omega))) | (with_reducible refine Below.drew ?_) | (with_reducible refine below_drewN ?_ _) | (refine Below.trans ?_ (Below.mono (by with_reducible assumption) (by (first | omega | (simp; done) | (simp; omega)))))))) (by first | omega | (simp; done) | (simp; omega)))); (focus exact (hrb.keep (by (repeat (first | (with_reducible exact Below.refl _ _) | (with_reducible assumption) | ((with_reducible refine Below.setCell ?_ ?_ _); rotate_left; focus (first | omega | (simp; done) | (simp; omega))) | ((with_reducible refine Below.alloc ?_ ?_ _); rotate_left; focus (first | omega | (simp; done) | (simp; omega))) | (with_reducible refine Below.drew ?_) | (with_reducible refine below_drewN ?_ _) | (refine Below.trans ?_ (Below.mono (by with_reducible assumption) (by (first | omega | (simp; done) | (simp; omega)))))))) (by first | omega | (simp; done) | (simp; omega))))); rintro e wB ⟨D1, d1, rfl, ho1, hbB⟩; (have hzB := hbB.size; try simp at hzB); (try ((refine (fun BN2 : Blk wB w2.heap.size 44 #[.slice none 0 0, .slice none 0 0] => ?_ : Blk wB w2.heap.size 44 #[.slice none 0 0, .slice none 0 0] → _) ?_); (rotate_left; focus ((repeat (first | (with_reducible assumption) | ((with_reducible refine Blk.new' ?_); focus (simp; done)) | (with_reducible refine Blk.alloc ?_ _) | (with_reducible refine Blk.drew ?_) | (with_reducible refine Blk.drewN ?_ _) | ((with_reducible refine Blk.far ?_ ?_ _); rotate_left; focus (first | omega | (simp; done) | (simp; omega))) | (refine Blk.keep ?_ (by with_reducible assumption)) | (refine Blk.below ?_ (by with_reducible assumption) (by (first | omega | (simp; done) | (simp; omega)))))); done)); have hcN2 := BN2.cell; have hfN2 := BN2.frozen; have hlN2 := BN2.lt)); (try ((refine (fun BN3 : Blk wB wA.heap.size 44 #[.slice none 0 0, .slice none 0 0] => ?_ : Blk wB wA.heap.size 44 #[.slice none 0 0, .slice none 0 0] → _) ?_); (rotate_left; focus ((repeat (first | (with_reducible assumption) | ((with_reducible refine Blk.new' ?_); focus (simp; done)) | (with_reducible refine Blk.alloc ?_ _) | (with_reducible refine Blk.drew ?_) | (with_reducible refine Blk.drewN ?_ _) | ((with_reducible refine Blk.far ?_ ?_ _); rotate_left; focus (first | omega | (simp; done) | (simp; omega))) | (refine Blk.keep ?_ (by with_reducible assumption)) | (refine Blk.below ?_ (by with_reducible assumption) (by (first | omega | (simp; done) | (simp; omega)))))); done)); have hcN3 := BN3.cell; have hfN3 := BN3.frozen; have hlN3 := BN3.lt))))
      all_goals
        have p0 := fun g hg => (ho0.lt g hg).1
        have p0' := fun g hg => (ho0.lt g hg).2
        have p1 := fun g hg => (ho1.lt g hg).1
        try simp at p0 p1
        replace ho0 := own_base (base' := w2.heap.size) ho0 (by first | omega | (simp; done) | (simp; omega))
        replace ho1 := own_base (base' := w2.heap.size) ho1 (by first | omega | (simp; done) | (simp; omega))
      · have BW : Blk (wB.alloc (.cells #[.slice D0 d.Safe.length d0, .slice D1 J.length d1] 44)) (wB.heap.size) 44 #[.slice D0 d.Safe.length d0, .slice D1 J.length d1] := Blk.new' rfl
        have BK1W : Blk (wB.alloc (.cells #[.slice D0 d.Safe.length d0, .slice D1 J.length d1] 44)) (w.heap.size + 2) 44 #[.slice none 0 0, .slice none 0 0] := by (repeat (first | (with_reducible assumption) | ((with_reducible refine Blk.new' ?_); focus (simp; done)) | (with_reducible refine Blk.alloc ?_ _) | (with_reducible refine Blk.drew ?_) | (with_reducible refine Blk.drewN ?_ _) | ((with_reducible refine Blk.far ?_ ?_ _); rotate_left; focus (first | omega | (simp; done) | (simp; omega))) | (refine Blk.keep ?_ (by with_reducible assumption)) | (refine Blk.below ?_ (by with_reducible assumption) (by (first | omega | (simp; done) | (simp; omega))))))
        have BK0W : Blk (wB.alloc (.cells #[.slice D0 d.Safe.length d0, .slice D1 J.length d1] 44)) w.heap.size 44 #[.slice A0 d.Safe.length c0, .slice A1 d.Loose.length c1] := by (repeat (first | (with_reducible assumption) | ((with_reducible refine Blk.new' ?_); focus (simp; done)) | (with_reducible refine Blk.alloc ?_ _) | (with_reducible refine Blk.drew ?_) | (with_reducible refine Blk.drewN ?_ _) | ((with_reducible refine Blk.far ?_ ?_ _); rotate_left; focus (first | omega | (simp; done) | (simp; omega))) | (refine Blk.keep ?_ (by with_reducible assumption)) | (refine Blk.below ?_ (by with_reducible assumption) (by (first | omega | (simp; done) | (simp; omega))))))
        have hbW : Below w2.heap.size w2 (wB.alloc (.cells #[.slice D0 d.Safe.length d0, .slice D1 J.length d1] 44)) := by (repeat (first | (with_reducible exact Below.refl _ _) | (with_reducible assumption) | ((with_reducible refine Below.setCell ?_ ?_ _); rotate_left; focus (first | omega | (simp; done) | (simp; omega))) | ((with_reducible refine Below.alloc ?_ ?_ _); rotate_left; focus (first | omega | (simp; done) | (simp; omega))) | (with_reducible refine Below.drew ?_) | (with_reducible refine below_drewN ?_ _) | (refine Below.trans ?_ (Below.mono (by with_reducible assumption) (by (first | omega | (simp; done) | (simp; omega)))))))
        have e0 : wB.ownsRow w2.heap.size 5 1 (.slice D0 d.Safe.length d0) d.Safe.length (d.Safe.map byteV) := by (repeat (first | (with_reducible exact ho0) | ((with_reducible refine own_setCell ?_ ?_ _); rotate_left; focus (first | omega | (simp; done) | (simp; omega))) | (with_reducible refine World.ownsRow.alloc ?_ _) | (with_reducible refine own_drew ?_) | (with_reducible refine own_drewN ?_ _) | (refine own_below ?_ (by with_reducible assumption))))
        have o0 : World.ownsRow (wB.alloc (.cells #[.slice D0 d.Safe.length d0, .slice D1 J.length d1] 44)) w2.heap.size 5 1 (.slice D0 d.Safe.length d0) d.Safe.length (d.Safe.map byteV) := e0.alloc _
        have o1 : World.ownsRow (wB.alloc (.cells #[.slice D0 d.Safe.length d0, .slice D1 J.length d1] 44)) w2.heap.size 5 1 (.slice D1 J.length d1) J.length (J.map byteV) := ho1.alloc _
        have hX : w2.heap.size ≤ wB.heap.size := by omega
        have pd : ∀ g, (Value.slice D0 d.Safe.length d0).ownBlock = some g → (Value.slice D1 J.length d1).ownBlock = some g → False := fun g hg hg' => by have := p0' g hg; have := p1 g hg'; omega
        generalize hWe : wB.alloc (.cells #[.slice D0 d.Safe.length d0, .slice D1 J.length d1] 44) = W at BW BK1W BK0W hbW o0 o1 ⊢
        clear hWe
        generalize hXe : wB.heap.size = X at BW hX ⊢
        clear hXe
        have hcW := BW.cell
        have hfW := BW.frozen
        have hlW := BW.lt
        have hzW := hbW.size
        clear BK0 hc0 hf0 hl0 BK1 hc1 hf1 hl1
        go_wp2_with fail
        refine (HO.out [.slice D0 d.Safe.length d0, .slice D1 J.length d1] _ ?_).mono ?_
        · exact of_rd_Disk (x := ⟨d.Safe, J⟩) ((of_own_ByteS o0).rd (fun g hg => (o0.lt g hg).2)) ((of_own_ByteS o1).rd (fun g hg => (o1.lt g hg).2))
        rintro e w4 ⟨rfl, hb4⟩
        have hz4 := hb4.size; try simp at hz4
        have BX := BW.keep hb4
        replace hcW := BX.cell
        replace hfW := BX.frozen
        replace hlW := BX.lt
        have BK1 := BK1W.keep hb4
        have BK0 := BK0W.keep hb4
        have hc0 := BK0.cell
        have hf0 := BK0.frozen
        have hl0 := BK0.lt
        have hc1 := BK1.cell
        have hf1 := BK1.frozen
        have hl1 := BK1.lt
        have o0' := own_below o0 hb4
        have o1' := own_below o1 hb4
        cases aB
        · go_wp2_with fail
          refine (HC.out _ (DiskR.rd_keep h0 (by (repeat (first | (with_reducible exact Below.refl _ _) | (with_reducible assumption) | ((with_reducible refine Below.setCell ?_ ?_ _); rotate_left; focus (first | omega | (simp; done) | (simp; omega))) | ((with_reducible refine Below.alloc ?_ ?_ _); rotate_left; focus (first | omega | (simp; done) | (simp; omega))) | (with_reducible refine Below.drew ?_) | (with_reducible refine below_drewN ?_ _) | (refine Below.trans ?_ (Below.mono (by with_reducible assumption) (by (first | omega | (simp; done) | (simp; omega)))))))) (by first | omega | (simp; done) | (simp; omega)))).mono ?_
          rintro e w3 ⟨cs', rfl, ho3, hb3⟩
          have hz3 := hb3.size; try simp at hz3
          replace BK1 := BK1.keep hb3
          replace hc1 := BK1.cell; replace hf1 := BK1.frozen; replace hl1 := BK1.lt
          clear hcW hfW hlW BX BW hc0 hf0 hl0 BK0 BK0W
          obtain ⟨_, _, _, _, rfl, p0, p1, -⟩ := own_Disk ho3
          obtain ⟨E0, e0, rfl⟩ := p0.form
          obtain ⟨E1, e1, rfl⟩ := p1.form
          go_wp2
          refine bodyPost_ret (v := .tuple #[.agg #[.slice E0 d.Safe.length e0, .slice E1 d.Loose.length e1], .bool false]) (by simp [results, Try.results25, go_sem, hc1, hf1]) rfl ⟨[.slice E0 d.Safe.length e0, .slice E1 d.Loose.length e1], rfl, ?_, by (repeat (first | (with_reducible exact Below.refl _ _) | (with_reducible assumption) | ((with_reducible refine Below.setCell ?_ ?_ _); rotate_left; focus (first | omega | (simp; done) | (simp; omega))) | ((with_reducible refine Below.alloc ?_ ?_ _); rotate_left; focus (first | omega | (simp; done) | (simp; omega))) | (with_reducible refine Below.drew ?_) | (with_reducible refine below_drewN ?_ _) | (refine Below.trans ?_ (Below.mono (by with_reducible assumption) (by (first | omega | (simp; done) | (simp; omega)))))))⟩
          rw [hnp (by first | rfl | trivial)]
          exact DiskR.own_wide (DiskR.own_off ho3 (by (repeat (first | (with_reducible exact Out.refl _ _) | (with_reducible assumption) | ((with_reducible refine Out.setCell ?_ ?_ _); rotate_left; focus (first | (refine Or.inl ?_; (first | omega | (simp; done) | (simp; omega))) | (refine Or.inr ?_; (first | omega | (simp; done) | (simp; omega))))) | (with_reducible refine Out.alloc ?_ _) | (with_reducible refine Out.drew ?_) | (with_reducible refine Out.drewN ?_ _) | (refine Out.step ?_ (by with_reducible assumption)))))) (inR_mono (by first | omega | (simp; done) | (simp; omega)) (by first | omega | (simp; done) | (simp; omega)))
        · go_wp2
          refine bodyPost_ret (v := .tuple #[.agg #[.slice D0 d.Safe.length d0, .slice D1 J.length d1], .bool true]) (by simp [results, Try.results25, go_sem, hc1, hf1]) rfl ⟨[.slice D0 d.Safe.length d0, .slice D1 J.length d1], rfl, ?_, by (repeat (first | (with_reducible exact Below.refl _ _) | (with_reducible assumption) | ((with_reducible refine Below.setCell ?_ ?_ _); rotate_left; focus (first | omega | (simp; done) | (simp; omega))) | ((with_reducible refine Below.alloc ?_ ?_ _); rotate_left; focus (first | omega | (simp; done) | (simp; omega))) | (with_reducible refine Below.drew ?_) | (with_reducible refine below_drewN ?_ _) | (refine Below.trans ?_ (Below.mono (by with_reducible assumption) (by (first | omega | (simp; done) | (simp; omega)))))))⟩
          rw [hap (by first | rfl | trivial)]
          refine of_own_Disk (x := ⟨d.Safe, J⟩) (S0 := fun g => (Value.slice D0 d.Safe.length d0).ownBlock = some g) (S1 := fun g => (Value.slice D1 J.length d1).ownBlock = some g) (of_own_ByteS (base := w2.heap.size) (by (repeat (first | (with_reducible exact o0') | ((with_reducible refine own_setCell ?_ ?_ _); rotate_left; focus (first | omega | (simp; done) | (simp; omega))) | (with_reducible refine World.ownsRow.alloc ?_ _) | (with_reducible refine own_drew ?_) | (with_reducible refine own_drewN ?_ _) | (refine own_below ?_ (by with_reducible assumption)))))) (of_own_ByteS (base := w2.heap.size) (by (repeat (first | (with_reducible exact o1') | ((with_reducible refine own_setCell ?_ ?_ _); rotate_left; focus (first | omega | (simp; done) | (simp; omega))) | (with_reducible refine World.ownsRow.alloc ?_ _) | (with_reducible refine own_drew ?_) | (with_reducible refine own_drewN ?_ _) | (refine own_below ?_ (by with_reducible assumption)))))) ?_ ?_ ?_
          · intro g hg; have := o0'.lt g hg; exact ⟨by omega, by first | omega | (simp; omega)⟩
          · intro g hg; have := o1'.lt g hg; exact ⟨by omega, by first | omega | (simp; omega)⟩
          · intro g hg hg'; exact pd g hg hg'
      · have BW : Blk ((wB.setCell ⟨wA.heap.size, 0, none⟩ (.slice D0 d.Safe.length d0)).setCell ⟨wA.heap.size, 1, none⟩ (.slice D1 J.length d1)) (wA.heap.size) 44 #[.slice D0 d.Safe.length d0, .slice D1 J.length d1] := ((BN3.set_ 0 _).set_ 1 _)
        have BK1W : Blk ((wB.setCell ⟨wA.heap.size, 0, none⟩ (.slice D0 d.Safe.length d0)).setCell ⟨wA.heap.size, 1, none⟩ (.slice D1 J.length d1)) (w.heap.size + 2) 44 #[.slice none 0 0, .slice none 0 0] := by (repeat (first | (with_reducible assumption) | ((with_reducible refine Blk.new' ?_); focus (simp; done)) | (with_reducible refine Blk.alloc ?_ _) | (with_reducible refine Blk.drew ?_) | (with_reducible refine Blk.drewN ?_ _) | ((with_reducible refine Blk.far ?_ ?_ _); rotate_left; focus (first | omega | (simp; done) | (simp; omega))) | (refine Blk.keep ?_ (by with_reducible assumption)) | (refine Blk.below ?_ (by with_reducible assumption) (by (first | omega | (simp; done) | (simp; omega))))))
        have BK0W : Blk ((wB.setCell ⟨wA.heap.size, 0, none⟩ (.slice D0 d.Safe.length d0)).setCell ⟨wA.heap.size, 1, none⟩ (.slice D1 J.length d1)) w.heap.size 44 #[.slice A0 d.Safe.length c0, .slice A1 d.Loose.length c1] := by (repeat (first | (with_reducible assumption) | ((with_reducible refine Blk.new' ?_); focus (simp; done)) | (with_reducible refine Blk.alloc ?_ _) | (with_reducible refine Blk.drew ?_) | (with_reducible refine Blk.drewN ?_ _) | ((with_reducible refine Blk.far ?_ ?_ _); rotate_left; focus (first | omega | (simp; done) | (simp; omega))) | (refine Blk.keep ?_ (by with_reducible assumption)) | (refine Blk.below ?_ (by with_reducible assumption) (by (first | omega | (simp; done) | (simp; omega))))))
        have hbW : Below w2.heap.size w2 ((wB.setCell ⟨wA.heap.size, 0, none⟩ (.slice D0 d.Safe.length d0)).setCell ⟨wA.heap.size, 1, none⟩ (.slice D1 J.length d1)) := by (repeat (first | (with_reducible exact Below.refl _ _) | (with_reducible assumption) | ((with_reducible refine Below.setCell ?_ ?_ _); rotate_left; focus (first | omega | (simp; done) | (simp; omega))) | ((with_reducible refine Below.alloc ?_ ?_ _); rotate_left; focus (first | omega | (simp; done) | (simp; omega))) | (with_reducible refine Below.drew ?_) | (with_reducible refine below_drewN ?_ _) | (refine Below.trans ?_ (Below.mono (by with_reducible assumption) (by (first | omega | (simp; done) | (simp; omega)))))))
        have e0 : wB.ownsRow w2.heap.size 5 1 (.slice D0 d.Safe.length d0) d.Safe.length (d.Safe.map byteV) := by (repeat (first | (with_reducible exact ho0) | ((with_reducible refine own_setCell ?_ ?_ _); rotate_left; focus (first | omega | (simp; done) | (simp; omega))) | (with_reducible refine World.ownsRow.alloc ?_ _) | (with_reducible refine own_drew ?_) | (with_reducible refine own_drewN ?_ _) | (refine own_below ?_ (by with_reducible assumption))))
        have o0 : World.ownsRow ((wB.setCell ⟨wA.heap.size, 0, none⟩ (.slice D0 d.Safe.length d0)).setCell ⟨wA.heap.size, 1, none⟩ (.slice D1 J.length d1)) w2.heap.size 5 1 (.slice D0 d.Safe.length d0) d.Safe.length (d.Safe.map byteV) := own_setCell_off (own_setCell_off e0 (fun g hg => by have := p0 g hg; have := p0' g hg; simp only [ne_eq]; omega) _) (fun g hg => by have := p0 g hg; have := p0' g hg; simp only [ne_eq]; omega) _
        have o1 : World.ownsRow ((wB.setCell ⟨wA.heap.size, 0, none⟩ (.slice D0 d.Safe.length d0)).setCell ⟨wA.heap.size, 1, none⟩ (.slice D1 J.length d1)) w2.heap.size 5 1 (.slice D1 J.length d1) J.length (J.map byteV) := own_setCell_off (own_setCell_off ho1 (fun g hg => by have := p1 g hg; simp only [ne_eq]; omega) _) (fun g hg => by have := p1 g hg; simp only [ne_eq]; omega) _
        have hX : w2.heap.size ≤ wA.heap.size := by omega
        have pd : ∀ g, (Value.slice D0 d.Safe.length d0).ownBlock = some g → (Value.slice D1 J.length d1).ownBlock = some g → False := fun g hg hg' => by have := p0' g hg; have := p1 g hg'; omega
        generalize hWe : (wB.setCell ⟨wA.heap.size, 0, none⟩ (.slice D0 d.Safe.length d0)).setCell ⟨wA.heap.size, 1, none⟩ (.slice D1 J.length d1) = W at BW BK1W BK0W hbW o0 o1 ⊢
        clear hWe
        generalize hXe : wA.heap.size = X at BW hX ⊢
        clear hXe
        have hcW := BW.cell
        have hfW := BW.frozen
        have hlW := BW.lt
        have hzW := hbW.size
        clear BK0 hc0 hf0 hl0 BK1 hc1 hf1 hl1
        go_wp2_with fail
        refine (HO.out [.slice D0 d.Safe.length d0, .slice D1 J.length d1] _ ?_).mono ?_
        · exact of_rd_Disk (x := ⟨d.Safe, J⟩) ((of_own_ByteS o0).rd (fun g hg => (o0.lt g hg).2)) ((of_own_ByteS o1).rd (fun g hg => (o1.lt g hg).2))
        rintro e w4 ⟨rfl, hb4⟩
        have hz4 := hb4.size; try simp at hz4
        have BX := BW.keep hb4
        replace hcW := BX.cell
        replace hfW := BX.frozen
        replace hlW := BX.lt
        have BK1 := BK1W.keep hb4
        have BK0 := BK0W.keep hb4
        have hc0 := BK0.cell
        have hf0 := BK0.frozen
        have hl0 := BK0.lt
        have hc1 := BK1.cell
        have hf1 := BK1.frozen
        have hl1 := BK1.lt
        have o0' := own_below o0 hb4
        have o1' := own_below o1 hb4
        cases aB
        · go_wp2_with fail
          refine (HC.out _ (DiskR.rd_keep h0 (by (repeat (first | (with_reducible exact Below.refl _ _) | (with_reducible assumption) | ((with_reducible refine Below.setCell ?_ ?_ _); rotate_left; focus (first | omega | (simp; done) | (simp; omega))) | ((with_reducible refine Below.alloc ?_ ?_ _); rotate_left; focus (first | omega | (simp; done) | (simp; omega))) | (with_reducible refine Below.drew ?_) | (with_reducible refine below_drewN ?_ _) | (refine Below.trans ?_ (Below.mono (by with_reducible assumption) (by (first | omega | (simp; done) | (simp; omega)))))))) (by first | omega | (simp; done) | (simp; omega)))).mono ?_
          rintro e w3 ⟨cs', rfl, ho3, hb3⟩
          have hz3 := hb3.size; try simp at hz3
          replace BK1 := BK1.keep hb3
          replace hc1 := BK1.cell; replace hf1 := BK1.frozen; replace hl1 := BK1.lt
          clear hcW hfW hlW BX BW hc0 hf0 hl0 BK0 BK0W
          obtain ⟨_, _, _, _, rfl, p0, p1, -⟩ := own_Disk ho3
          obtain ⟨E0, e0, rfl⟩ := p0.form
          obtain ⟨E1, e1, rfl⟩ := p1.form
          go_wp2
          refine bodyPost_ret (v := .tuple #[.agg #[.slice E0 d.Safe.length e0, .slice E1 d.Loose.length e1], .bool false]) (by simp [results, Try.results25, go_sem, hc1, hf1]) rfl ⟨[.slice E0 d.Safe.length e0, .slice E1 d.Loose.length e1], rfl, ?_, by (repeat (first | (with_reducible exact Below.refl _ _) | (with_reducible assumption) | ((with_reducible refine Below.setCell ?_ ?_ _); rotate_left; focus (first | omega | (simp; done) | (simp; omega))) | ((with_reducible refine Below.alloc ?_ ?_ _); rotate_left; focus (first | omega | (simp; done) | (simp; omega))) | (with_reducible refine Below.drew ?_) | (with_reducible refine below_drewN ?_ _) | (refine Below.trans ?_ (Below.mono (by with_reducible assumption) (by (first | omega | (simp; done) | (simp; omega)))))))⟩
          rw [hnp (by first | rfl | trivial)]
          exact DiskR.own_wide (DiskR.own_off ho3 (by (repeat (first | (with_reducible exact Out.refl _ _) | (with_reducible assumption) | ((with_reducible refine Out.setCell ?_ ?_ _); rotate_left; focus (first | (refine Or.inl ?_; (first | omega | (simp; done) | (simp; omega))) | (refine Or.inr ?_; (first | omega | (simp; done) | (simp; omega))))) | (with_reducible refine Out.alloc ?_ _) | (with_reducible refine Out.drew ?_) | (with_reducible refine Out.drewN ?_ _) | (refine Out.step ?_ (by with_reducible assumption)))))) (inR_mono (by first | omega | (simp; done) | (simp; omega)) (by first | omega | (simp; done) | (simp; omega)))
        · go_wp2
          refine bodyPost_ret (v := .tuple #[.agg #[.slice D0 d.Safe.length d0, .slice D1 J.length d1], .bool true]) (by simp [results, Try.results25, go_sem, hc1, hf1]) rfl ⟨[.slice D0 d.Safe.length d0, .slice D1 J.length d1], rfl, ?_, by (repeat (first | (with_reducible exact Below.refl _ _) | (with_reducible assumption) | ((with_reducible refine Below.setCell ?_ ?_ _); rotate_left; focus (first | omega | (simp; done) | (simp; omega))) | ((with_reducible refine Below.alloc ?_ ?_ _); rotate_left; focus (first | omega | (simp; done) | (simp; omega))) | (with_reducible refine Below.drew ?_) | (with_reducible refine below_drewN ?_ _) | (refine Below.trans ?_ (Below.mono (by with_reducible assumption) (by (first | omega | (simp; done) | (simp; omega)))))))⟩
          rw [hap (by first | rfl | trivial)]
          refine of_own_Disk (x := ⟨d.Safe, J⟩) (S0 := fun g => (Value.slice D0 d.Safe.length d0).ownBlock = some g) (S1 := fun g => (Value.slice D1 J.length d1).ownBlock = some g) (of_own_ByteS (base := w2.heap.size) (by (repeat (first | (with_reducible exact o0') | ((with_reducible refine own_setCell ?_ ?_ _); rotate_left; focus (first | omega | (simp; done) | (simp; omega))) | (with_reducible refine World.ownsRow.alloc ?_ _) | (with_reducible refine own_drew ?_) | (with_reducible refine own_drewN ?_ _) | (refine own_below ?_ (by with_reducible assumption)))))) (of_own_ByteS (base := w2.heap.size) (by (repeat (first | (with_reducible exact o1') | ((with_reducible refine own_setCell ?_ ?_ _); rotate_left; focus (first | omega | (simp; done) | (simp; omega))) | (with_reducible refine World.ownsRow.alloc ?_ _) | (with_reducible refine own_drew ?_) | (with_reducible refine own_drewN ?_ _) | (refine own_below ?_ (by with_reducible assumption)))))) ?_ ?_ ?_
          · intro g hg; have := o0'.lt g hg; exact ⟨by omega, by first | omega | (simp; omega)⟩
          · intro g hg; have := o1'.lt g hg; exact ⟨by omega, by first | omega | (simp; omega)⟩
          · intro g hg hg'; exact pd g hg hg'
      · have BW : Blk ((wB.setCell ⟨w2.heap.size, 0, none⟩ (.slice D0 d.Safe.length d0)).setCell ⟨w2.heap.size, 1, none⟩ (.slice D1 J.length d1)) (w2.heap.size) 44 #[.slice D0 d.Safe.length d0, .slice D1 J.length d1] := ((BN2.set_ 0 _).set_ 1 _)
        have BK1W : Blk ((wB.setCell ⟨w2.heap.size, 0, none⟩ (.slice D0 d.Safe.length d0)).setCell ⟨w2.heap.size, 1, none⟩ (.slice D1 J.length d1)) (w.heap.size + 2) 44 #[.slice none 0 0, .slice none 0 0] := by (repeat (first | (with_reducible assumption) | ((with_reducible refine Blk.new' ?_); focus (simp; done)) | (with_reducible refine Blk.alloc ?_ _) | (with_reducible refine Blk.drew ?_) | (with_reducible refine Blk.drewN ?_ _) | ((with_reducible refine Blk.far ?_ ?_ _); rotate_left; focus (first | omega | (simp; done) | (simp; omega))) | (refine Blk.keep ?_ (by with_reducible assumption)) | (refine Blk.below ?_ (by with_reducible assumption) (by (first | omega | (simp; done) | (simp; omega))))))
        have BK0W : Blk ((wB.setCell ⟨w2.heap.size, 0, none⟩ (.slice D0 d.Safe.length d0)).setCell ⟨w2.heap.size, 1, none⟩ (.slice D1 J.length d1)) w.heap.size 44 #[.slice A0 d.Safe.length c0, .slice A1 d.Loose.length c1] := by (repeat (first | (with_reducible assumption) | ((with_reducible refine Blk.new' ?_); focus (simp; done)) | (with_reducible refine Blk.alloc ?_ _) | (with_reducible refine Blk.drew ?_) | (with_reducible refine Blk.drewN ?_ _) | ((with_reducible refine Blk.far ?_ ?_ _); rotate_left; focus (first | omega | (simp; done) | (simp; omega))) | (refine Blk.keep ?_ (by with_reducible assumption)) | (refine Blk.below ?_ (by with_reducible assumption) (by (first | omega | (simp; done) | (simp; omega))))))
        have hbW : Below w2.heap.size w2 ((wB.setCell ⟨w2.heap.size, 0, none⟩ (.slice D0 d.Safe.length d0)).setCell ⟨w2.heap.size, 1, none⟩ (.slice D1 J.length d1)) := by (repeat (first | (with_reducible exact Below.refl _ _) | (with_reducible assumption) | ((with_reducible refine Below.setCell ?_ ?_ _); rotate_left; focus (first | omega | (simp; done) | (simp; omega))) | ((with_reducible refine Below.alloc ?_ ?_ _); rotate_left; focus (first | omega | (simp; done) | (simp; omega))) | (with_reducible refine Below.drew ?_) | (with_reducible refine below_drewN ?_ _) | (refine Below.trans ?_ (Below.mono (by with_reducible assumption) (by (first | omega | (simp; done) | (simp; omega)))))))
        have e0 : wB.ownsRow w2.heap.size 5 1 (.slice D0 d.Safe.length d0) d.Safe.length (d.Safe.map byteV) := by (repeat (first | (with_reducible exact ho0) | ((with_reducible refine own_setCell ?_ ?_ _); rotate_left; focus (first | omega | (simp; done) | (simp; omega))) | (with_reducible refine World.ownsRow.alloc ?_ _) | (with_reducible refine own_drew ?_) | (with_reducible refine own_drewN ?_ _) | (refine own_below ?_ (by with_reducible assumption))))
        have o0 : World.ownsRow ((wB.setCell ⟨w2.heap.size, 0, none⟩ (.slice D0 d.Safe.length d0)).setCell ⟨w2.heap.size, 1, none⟩ (.slice D1 J.length d1)) w2.heap.size 5 1 (.slice D0 d.Safe.length d0) d.Safe.length (d.Safe.map byteV) := own_setCell_off (own_setCell_off e0 (fun g hg => by have := p0 g hg; have := p0' g hg; simp only [ne_eq]; omega) _) (fun g hg => by have := p0 g hg; have := p0' g hg; simp only [ne_eq]; omega) _
        have o1 : World.ownsRow ((wB.setCell ⟨w2.heap.size, 0, none⟩ (.slice D0 d.Safe.length d0)).setCell ⟨w2.heap.size, 1, none⟩ (.slice D1 J.length d1)) w2.heap.size 5 1 (.slice D1 J.length d1) J.length (J.map byteV) := own_setCell_off (own_setCell_off ho1 (fun g hg => by have := p1 g hg; simp only [ne_eq]; omega) _) (fun g hg => by have := p1 g hg; simp only [ne_eq]; omega) _
        have hX : w2.heap.size ≤ w2.heap.size := by omega
        have pd : ∀ g, (Value.slice D0 d.Safe.length d0).ownBlock = some g → (Value.slice D1 J.length d1).ownBlock = some g → False := fun g hg hg' => by have := p0' g hg; have := p1 g hg'; omega
        generalize hWe : (wB.setCell ⟨w2.heap.size, 0, none⟩ (.slice D0 d.Safe.length d0)).setCell ⟨w2.heap.size, 1, none⟩ (.slice D1 J.length d1) = W at BW BK1W BK0W hbW o0 o1 ⊢
        clear hWe
        generalize hXe : w2.heap.size = X at BW hX ⊢
        clear hXe
        have hcW := BW.cell
        have hfW := BW.frozen
        have hlW := BW.lt
        have hzW := hbW.size
        clear BK0 hc0 hf0 hl0 BK1 hc1 hf1 hl1
        go_wp2_with fail
        refine (HO.out [.slice D0 d.Safe.length d0, .slice D1 J.length d1] _ ?_).mono ?_
        · exact of_rd_Disk (x := ⟨d.Safe, J⟩) ((of_own_ByteS o0).rd (fun g hg => (o0.lt g hg).2)) ((of_own_ByteS o1).rd (fun g hg => (o1.lt g hg).2))
        rintro e w4 ⟨rfl, hb4⟩
        have hz4 := hb4.size; try simp at hz4
        have BX := BW.keep hb4
        replace hcW := BX.cell
        replace hfW := BX.frozen
        replace hlW := BX.lt
        have BK1 := BK1W.keep hb4
        have BK0 := BK0W.keep hb4
        have hc0 := BK0.cell
        have hf0 := BK0.frozen
        have hl0 := BK0.lt
        have hc1 := BK1.cell
        have hf1 := BK1.frozen
        have hl1 := BK1.lt
        have o0' := own_below o0 hb4
        have o1' := own_below o1 hb4
        cases aB
        · go_wp2_with fail
          refine (HC.out _ (DiskR.rd_keep h0 (by (repeat (first | (with_reducible exact Below.refl _ _) | (with_reducible assumption) | ((with_reducible refine Below.setCell ?_ ?_ _); rotate_left; focus (first | omega | (simp; done) | (simp; omega))) | ((with_reducible refine Below.alloc ?_ ?_ _); rotate_left; focus (first | omega | (simp; done) | (simp; omega))) | (with_reducible refine Below.drew ?_) | (with_reducible refine below_drewN ?_ _) | (refine Below.trans ?_ (Below.mono (by with_reducible assumption) (by (first | omega | (simp; done) | (simp; omega)))))))) (by first | omega | (simp; done) | (simp; omega)))).mono ?_
          rintro e w3 ⟨cs', rfl, ho3, hb3⟩
          have hz3 := hb3.size; try simp at hz3
          replace BK1 := BK1.keep hb3
          replace hc1 := BK1.cell; replace hf1 := BK1.frozen; replace hl1 := BK1.lt
          clear hcW hfW hlW BX BW hc0 hf0 hl0 BK0 BK0W
          obtain ⟨_, _, _, _, rfl, p0, p1, -⟩ := own_Disk ho3
          obtain ⟨E0, e0, rfl⟩ := p0.form
          obtain ⟨E1, e1, rfl⟩ := p1.form
          go_wp2
          refine bodyPost_ret (v := .tuple #[.agg #[.slice E0 d.Safe.length e0, .slice E1 d.Loose.length e1], .bool false]) (by simp [results, Try.results25, go_sem, hc1, hf1]) rfl ⟨[.slice E0 d.Safe.length e0, .slice E1 d.Loose.length e1], rfl, ?_, by (repeat (first | (with_reducible exact Below.refl _ _) | (with_reducible assumption) | ((with_reducible refine Below.setCell ?_ ?_ _); rotate_left; focus (first | omega | (simp; done) | (simp; omega))) | ((with_reducible refine Below.alloc ?_ ?_ _); rotate_left; focus (first | omega | (simp; done) | (simp; omega))) | (with_reducible refine Below.drew ?_) | (with_reducible refine below_drewN ?_ _) | (refine Below.trans ?_ (Below.mono (by with_reducible assumption) (by (first | omega | (simp; done) | (simp; omega)))))))⟩
          rw [hnp (by first | rfl | trivial)]
          exact DiskR.own_wide (DiskR.own_off ho3 (by (repeat (first | (with_reducible exact Out.refl _ _) | (with_reducible assumption) | ((with_reducible refine Out.setCell ?_ ?_ _); rotate_left; focus (first | (refine Or.inl ?_; (first | omega | (simp; done) | (simp; omega))) | (refine Or.inr ?_; (first | omega | (simp; done) | (simp; omega))))) | (with_reducible refine Out.alloc ?_ _) | (with_reducible refine Out.drew ?_) | (with_reducible refine Out.drewN ?_ _) | (refine Out.step ?_ (by with_reducible assumption)))))) (inR_mono (by first | omega | (simp; done) | (simp; omega)) (by first | omega | (simp; done) | (simp; omega)))
        · go_wp2
          refine bodyPost_ret (v := .tuple #[.agg #[.slice D0 d.Safe.length d0, .slice D1 J.length d1], .bool true]) (by simp [results, Try.results25, go_sem, hc1, hf1]) rfl ⟨[.slice D0 d.Safe.length d0, .slice D1 J.length d1], rfl, ?_, by (repeat (first | (with_reducible exact Below.refl _ _) | (with_reducible assumption) | ((with_reducible refine Below.setCell ?_ ?_ _); rotate_left; focus (first | omega | (simp; done) | (simp; omega))) | ((with_reducible refine Below.alloc ?_ ?_ _); rotate_left; focus (first | omega | (simp; done) | (simp; omega))) | (with_reducible refine Below.drew ?_) | (with_reducible refine below_drewN ?_ _) | (refine Below.trans ?_ (Below.mono (by with_reducible assumption) (by (first | omega | (simp; done) | (simp; omega)))))))⟩
          rw [hap (by first | rfl | trivial)]
          refine of_own_Disk (x := ⟨d.Safe, J⟩) (S0 := fun g => (Value.slice D0 d.Safe.length d0).ownBlock = some g) (S1 := fun g => (Value.slice D1 J.length d1).ownBlock = some g) (of_own_ByteS (base := w2.heap.size) (by (repeat (first | (with_reducible exact o0') | ((with_reducible refine own_setCell ?_ ?_ _); rotate_left; focus (first | omega | (simp; done) | (simp; omega))) | (with_reducible refine World.ownsRow.alloc ?_ _) | (with_reducible refine own_drew ?_) | (with_reducible refine own_drewN ?_ _) | (refine own_below ?_ (by with_reducible assumption)))))) (of_own_ByteS (base := w2.heap.size) (by (repeat (first | (with_reducible exact o1') | ((with_reducible refine own_setCell ?_ ?_ _); rotate_left; focus (first | omega | (simp; done) | (simp; omega))) | (with_reducible refine World.ownsRow.alloc ?_ _) | (with_reducible refine own_drew ?_) | (with_reducible refine own_drewN ?_ _) | (refine own_below ?_ (by with_reducible assumption)))))) ?_ ?_ ?_
          · intro g hg; have := o0'.lt g hg; exact ⟨by omega, by first | omega | (simp; omega)⟩
          · intro g hg; have := o1'.lt g hg; exact ⟨by omega, by first | omega | (simp; omega)⟩
          · intro g hg hg'; exact pd g hg hg'
end Go.Proofs.Ytpilgfcdffledaa

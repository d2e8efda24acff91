/- RepairLog, both sides. -/
import Derived.Test.YtgaenfkjobkmjaaReadLog
set_option linter.unusedSimpArgs false
set_option linter.unusedVariables false
set_option maxRecDepth 20000
namespace Go.Proofs.Ytgaenfkjobkmjaa
open Go.RowKit
set_option maxHeartbeats 3200000 in
theorem spec_RepairLogL (cs : List Value) (d : Disk) (w : World) (h : DiskR.Rd w w.heap.size cs d) (hm : DiskR.sz d ≤ 1048576) :
    Calls Try.prog 38 #[.agg cs.toArray] w fun e w' => ∃ cs', e = .returned (.tuple #[.agg cs'.toArray, .bool (repB d)]) ∧ DiskR.Own w' (InR w.heap.size w'.heap.size) cs' (repD d) ∧ Below w.heap.size w w' := by
  obtain ⟨v0, v1, rfl, q0, q1⟩ := rd_Disk (_root_.id h)
  obtain ⟨A0, c0, rfl⟩ := q0.form
  obtain ⟨A1, c1, rfl⟩ := q1.form
  have hl := len_sz_Disk hm
  obtain ⟨-, r0, k0, k0'⟩ := rd_ByteS q0
  obtain ⟨-, r1, k1, k1'⟩ := rd_ByteS q1
  have hR := Lib.hid (fun (w' : World) (hb : Below w.heap.size w w') (hz : w.heap.size ≤ w'.heap.size) => DiskR.rd_keep h hb hz)
  have HOk := Lib.hid (fun (w' : World) (h : DiskR.Rd w' w'.heap.size [.slice A0 d.Safe.length c0, .slice A1 d.Loose.length c1] d) => spec_DiskOk _ d w' h hm)
  have HCp := Lib.hid (fun (w' : World) (h : DiskR.Rd w' w'.heap.size [.slice A0 d.Safe.length c0, .slice A1 d.Loose.length c1] d) => spec_l06Copy _ d w' h hm)
  have HA := Lib.hid (fun (w' : World) (h0 : Reads w' w'.heap.size A0 (d.Safe.map byteV)) (h1 : Reads w' w'.heap.size A1 (d.Loose.map byteV)) => spec_l01Join A0 A1 c0 c1 d.Safe d.Loose w' h0 h1 (by omega) (by omega))
  have hal := all_len d
  have HSc := Lib.hid (fun (A : Option Addr) (c : Nat) (w' : World) (h : Reads w' w'.heap.size A (d.all.map byteV)) (a : d.all.length ≤ c) (b : c ≤ 9223372036854775807) => spec_ScanFrames A c d.all w' h a b (by omega))
  have hat := scanF_at d.all
  have hRY := repD_yes (d := d)
  have hRN := repD_no (d := d)
  have hRB : repB d = (d.ok && !((scanF d.all).2.2 == 2)) := rfl
  generalize repD d = RD at *
  generalize repB d = RB at *
  generalize (scanF d.all).1 = L at *
  generalize (scanF d.all).2.1 = a at *
  generalize (scanF d.all).2.2 = code at *
  have HBy := Lib.hid (fun (A : Option Addr) (c : Nat) (w' : World) (h : Reads w' w'.heap.size A ((d.all.take a).map byteV)) => spec_l01Bytes A c (d.all.take a) w' h (by rw [List.length_take]; omega))
  have hall : (d.Safe ++ d.Loose) = d.all := rfl
  rw [hall] at HA
  generalize d.all = X at *
  have hXl : X.length ≤ 1048576 := by omega
  clear hal hall
  cases hok : d.ok
  · have HN : Hid (RB = false ∧ RD = d) := Lib.hid (have h1 : RB = false := (by rw [hRB, hok]; rfl); ⟨h1, hRN h1⟩)
    rw [hok] at HOk
    clear hok HA HSc hRY hRN hRB
    go_enter Try.func38, Try.ntmps38
    go_wp2_with fail
    refine (HOk.out _ (hR.out _ (by (repeat (first | (with_reducible exact Below.refl _ _) | (with_reducible assumption) | ((with_reducible refine Below.setCell ?_ ?_ _); rotate_left; focus (first | omega | (simp; done) | (simp; omega))) | ((with_reducible refine Below.alloc ?_ ?_ _); rotate_left; focus (first | omega | (simp; done) | (simp; omega))) | (with_reducible refine Below.drew ?_) | (with_reducible refine below_drewN ?_ _) | (refine Below.trans ?_ (Below.mono (by with_reducible assumption) (by (first | omega | (simp; done) | (simp; omega)))))))) (by first | omega | (simp; done) | (simp; omega)))).mono ?_
    rintro e w1 ⟨rfl, hb1⟩
    have hz1 := hb1.size; try simp at hz1
    have BK0 : Blk w1 w.heap.size 44 #[.slice A0 d.Safe.length c0, .slice A1 d.Loose.length c1] := by (repeat (first | (with_reducible assumption) | ((with_reducible refine Blk.new' ?_); focus (simp; done)) | (with_reducible refine Blk.alloc ?_ _) | (with_reducible refine Blk.drew ?_) | (with_reducible refine Blk.drewN ?_ _) | ((with_reducible refine Blk.far ?_ ?_ _); rotate_left; focus (first | omega | (simp; done) | (simp; omega))) | (refine Blk.keep ?_ (by with_reducible assumption)) | (refine Blk.below ?_ (by with_reducible assumption) (by (first | omega | (simp; done) | (simp; omega))))))
    have hc0 := BK0.cell; have hf0 := BK0.frozen; have hl0 := BK0.lt
    have BK1 : Blk w1 (w.heap.size + 1) 44 #[.slice none 0 0, .slice none 0 0] := by (repeat (first | (with_reducible assumption) | ((with_reducible refine Blk.new' ?_); focus (simp; done)) | (with_reducible refine Blk.alloc ?_ _) | (with_reducible refine Blk.drew ?_) | (with_reducible refine Blk.drewN ?_ _) | ((with_reducible refine Blk.far ?_ ?_ _); rotate_left; focus (first | omega | (simp; done) | (simp; omega))) | (refine Blk.keep ?_ (by with_reducible assumption)) | (refine Blk.below ?_ (by with_reducible assumption) (by (first | omega | (simp; done) | (simp; omega))))))
    have hc1 := BK1.cell; have hf1 := BK1.frozen; have hl1 := BK1.lt
    go_wp2_with fail
    refine (HCp.out _ (hR.out _ (by (repeat (first | (with_reducible exact Below.refl _ _) | (with_reducible assumption) | ((with_reducible refine Below.setCell ?_ ?_ _); rotate_left; focus (first | omega | (simp; done) | (simp; omega))) | ((with_reducible refine Below.alloc ?_ ?_ _); rotate_left; focus (first | omega | (simp; done) | (simp; omega))) | (with_reducible refine Below.drew ?_) | (with_reducible refine below_drewN ?_ _) | (refine Below.trans ?_ (Below.mono (by with_reducible assumption) (by (first | omega | (simp; done) | (simp; omega)))))))) (by first | omega | (simp; done) | (simp; omega)))).mono ?_
    rintro e w2 ⟨cs2, rfl, ho2, hb2⟩
    have hz2 := hb2.size; try simp at hz2
    replace BK0 : Blk w2 w.heap.size 44 #[.slice A0 d.Safe.length c0, .slice A1 d.Loose.length c1] := by (repeat (first | (with_reducible assumption) | ((with_reducible refine Blk.new' ?_); focus (simp; done)) | (with_reducible refine Blk.alloc ?_ _) | (with_reducible refine Blk.drew ?_) | (with_reducible refine Blk.drewN ?_ _) | ((with_reducible refine Blk.far ?_ ?_ _); rotate_left; focus (first | omega | (simp; done) | (simp; omega))) | (refine Blk.keep ?_ (by with_reducible assumption)) | (refine Blk.below ?_ (by with_reducible assumption) (by (first | omega | (simp; done) | (simp; omega))))))
    replace hc0 := BK0.cell; replace hf0 := BK0.frozen; replace hl0 := BK0.lt
    replace BK1 : Blk w2 (w.heap.size + 1) 44 #[.slice none 0 0, .slice none 0 0] := by (repeat (first | (with_reducible assumption) | ((with_reducible refine Blk.new' ?_); focus (simp; done)) | (with_reducible refine Blk.alloc ?_ _) | (with_reducible refine Blk.drew ?_) | (with_reducible refine Blk.drewN ?_ _) | ((with_reducible refine Blk.far ?_ ?_ _); rotate_left; focus (first | omega | (simp; done) | (simp; omega))) | (refine Blk.keep ?_ (by with_reducible assumption)) | (refine Blk.below ?_ (by with_reducible assumption) (by (first | omega | (simp; done) | (simp; omega))))))
    replace hc1 := BK1.cell; replace hf1 := BK1.frozen; replace hl1 := BK1.lt
    obtain ⟨_, _, _, _, rfl, p0, p1, -⟩ := own_Disk (_root_.id ho2)
    obtain ⟨D0, d0, rfl⟩ := p0.form
    obtain ⟨D1, d1, rfl⟩ := p1.form
    go_wp2
    refine bodyPost_ret (v := .tuple #[.agg #[.slice D0 d.Safe.length d0, .slice D1 d.Loose.length d1], .bool false]) (by simp [results, Try.results38, go_sem, hc1, hf1]) rfl ⟨[.slice D0 d.Safe.length d0, .slice D1 d.Loose.length d1], by rw [HN.out.1], ?_, by (repeat (first | (with_reducible exact Below.refl _ _) | (with_reducible assumption) | ((with_reducible refine Below.setCell ?_ ?_ _); rotate_left; focus (first | omega | (simp; done) | (simp; omega))) | ((with_reducible refine Below.alloc ?_ ?_ _); rotate_left; focus (first | omega | (simp; done) | (simp; omega))) | (with_reducible refine Below.drew ?_) | (with_reducible refine below_drewN ?_ _) | (refine Below.trans ?_ (Below.mono (by with_reducible assumption) (by (first | omega | (simp; done) | (simp; omega)))))))⟩
    rw [HN.out.2]
    exact DiskR.own_wide (DiskR.own_off ho2 (by (repeat (first | (with_reducible exact Out.refl _ _) | (with_reducible assumption) | ((with_reducible refine Out.setCell ?_ ?_ _); rotate_left; focus (first | (refine Or.inl ?_; (first | omega | (simp; done) | (simp; omega))) | (refine Or.inr ?_; (first | omega | (simp; done) | (simp; omega))))) | (with_reducible refine Out.alloc ?_ _) | (with_reducible refine Out.drew ?_) | (with_reducible refine Out.drewN ?_ _) | (refine Out.step ?_ (by with_reducible assumption)))))) (inR_mono (by first | omega | (simp; done) | (simp; omega)) (by first | omega | (simp; done) | (simp; omega)))
  rw [hok] at HOk
  go_enter Try.func38, Try.ntmps38
  go_wp2_with fail
  refine (HOk.out _ (hR.out _ (by (repeat (first | (with_reducible exact Below.refl _ _) | (with_reducible assumption) | ((with_reducible refine Below.setCell ?_ ?_ _); rotate_left; focus (first | omega | (simp; done) | (simp; omega))) | ((with_reducible refine Below.alloc ?_ ?_ _); rotate_left; focus (first | omega | (simp; done) | (simp; omega))) | (with_reducible refine Below.drew ?_) | (with_reducible refine below_drewN ?_ _) | (refine Below.trans ?_ (Below.mono (by with_reducible assumption) (by (first | omega | (simp; done) | (simp; omega)))))))) (by first | omega | (simp; done) | (simp; omega)))).mono ?_
  rintro e w1 ⟨rfl, hb1⟩
  have hz1 := hb1.size; try simp at hz1
  have BK0 : Blk w1 w.heap.size 44 #[.slice A0 d.Safe.length c0, .slice A1 d.Loose.length c1] := by (repeat (first | (with_reducible assumption) | ((with_reducible refine Blk.new' ?_); focus (simp; done)) | (with_reducible refine Blk.alloc ?_ _) | (with_reducible refine Blk.drew ?_) | (with_reducible refine Blk.drewN ?_ _) | ((with_reducible refine Blk.far ?_ ?_ _); rotate_left; focus (first | omega | (simp; done) | (simp; omega))) | (refine Blk.keep ?_ (by with_reducible assumption)) | (refine Blk.below ?_ (by with_reducible assumption) (by (first | omega | (simp; done) | (simp; omega))))))
  have hc0 := BK0.cell; have hf0 := BK0.frozen; have hl0 := BK0.lt
  have BK1 : Blk w1 (w.heap.size + 1) 44 #[.slice none 0 0, .slice none 0 0] := by (repeat (first | (with_reducible assumption) | ((with_reducible refine Blk.new' ?_); focus (simp; done)) | (with_reducible refine Blk.alloc ?_ _) | (with_reducible refine Blk.drew ?_) | (with_reducible refine Blk.drewN ?_ _) | ((with_reducible refine Blk.far ?_ ?_ _); rotate_left; focus (first | omega | (simp; done) | (simp; omega))) | (refine Blk.keep ?_ (by with_reducible assumption)) | (refine Blk.below ?_ (by with_reducible assumption) (by (first | omega | (simp; done) | (simp; omega))))))
  have hc1 := BK1.cell; have hf1 := BK1.frozen; have hl1 := BK1.lt
  go_wp2_with fail
  refine (HA.out _ (r0.keep (by (repeat (first | (with_reducible exact Below.refl _ _) | (with_reducible assumption) | ((with_reducible refine Below.setCell ?_ ?_ _); rotate_left; focus (first | omega | (simp; done) | (simp; omega))) | ((with_reducible refine Below.alloc ?_ ?_ _); rotate_left; focus (first | omega | (simp; done) | (simp; omega))) | (with_reducible refine Below.drew ?_) | (with_reducible refine below_drewN ?_ _) | (refine Below.trans ?_ (Below.mono (by with_reducible assumption) (by (first | omega | (simp; done) | (simp; omega)))))))) (by first | omega | (simp; done) | (simp; omega))) (r1.keep (by (repeat (first | (with_reducible exact Below.refl _ _) | (with_reducible assumption) | ((with_reducible refine Below.setCell ?_ ?_ _); rotate_left; focus (first | omega | (simp; done) | (simp; omega))) | ((with_reducible refine Below.alloc ?_ ?_ _); rotate_left; focus (first | omega | (simp; done) | (simp; omega))) | (with_reducible refine Below.drew ?_) | (with_reducible refine below_drewN ?_ _) | (refine Below.trans ?_ (Below.mono (by with_reducible assumption) (by (first | omega | (simp; done) | (simp; omega)))))))) (by first | omega | (simp; done) | (simp; omega)))).mono ?_
  rintro e w2 ⟨A2, c2, rfl, ho2, hb2⟩
  have hz2 := hb2.size; try simp at hz2
  replace BK0 : Blk w2 w.heap.size 44 #[.slice A0 d.Safe.length c0, .slice A1 d.Loose.length c1] := by (repeat (first | (with_reducible assumption) | ((with_reducible refine Blk.new' ?_); focus (simp; done)) | (with_reducible refine Blk.alloc ?_ _) | (with_reducible refine Blk.drew ?_) | (with_reducible refine Blk.drewN ?_ _) | ((with_reducible refine Blk.far ?_ ?_ _); rotate_left; focus (first | omega | (simp; done) | (simp; omega))) | (refine Blk.keep ?_ (by with_reducible assumption)) | (refine Blk.below ?_ (by with_reducible assumption) (by (first | omega | (simp; done) | (simp; omega))))))
  replace hc0 := BK0.cell; replace hf0 := BK0.frozen; replace hl0 := BK0.lt
  replace BK1 : Blk w2 (w.heap.size + 1) 44 #[.slice none 0 0, .slice none 0 0] := by (repeat (first | (with_reducible assumption) | ((with_reducible refine Blk.new' ?_); focus (simp; done)) | (with_reducible refine Blk.alloc ?_ _) | (with_reducible refine Blk.drew ?_) | (with_reducible refine Blk.drewN ?_ _) | ((with_reducible refine Blk.far ?_ ?_ _); rotate_left; focus (first | omega | (simp; done) | (simp; omega))) | (refine Blk.keep ?_ (by with_reducible assumption)) | (refine Blk.below ?_ (by with_reducible assumption) (by (first | omega | (simp; done) | (simp; omega))))))
  replace hc1 := BK1.cell; replace hf1 := BK1.frozen; replace hl1 := BK1.lt
  have hcap := own_cap ho2
  have hcap2 := own_max ho2
  go_wp2_with fail
  refine (HSc.out _ _ _ (Reads.of_own ho2) hcap hcap2).mono ?_
  rintro e w3 ⟨v, rfl, ho3, hb3⟩
  have hz3 := hb3.size; try simp at hz3
  replace BK0 : Blk w3 w.heap.size 44 #[.slice A0 d.Safe.length c0, .slice A1 d.Loose.length c1] := by (repeat (first | (with_reducible assumption) | ((with_reducible refine Blk.new' ?_); focus (simp; done)) | (with_reducible refine Blk.alloc ?_ _) | (with_reducible refine Blk.drew ?_) | (with_reducible refine Blk.drewN ?_ _) | ((with_reducible refine Blk.far ?_ ?_ _); rotate_left; focus (first | omega | (simp; done) | (simp; omega))) | (refine Blk.keep ?_ (by with_reducible assumption)) | (refine Blk.below ?_ (by with_reducible assumption) (by (first | omega | (simp; done) | (simp; omega))))))
  replace hc0 := BK0.cell; replace hf0 := BK0.frozen; replace hl0 := BK0.lt
  replace BK1 : Blk w3 (w.heap.size + 1) 44 #[.slice none 0 0, .slice none 0 0] := by (repeat (first | (with_reducible assumption) | ((with_reducible refine Blk.new' ?_); focus (simp; done)) | (with_reducible refine Blk.alloc ?_ _) | (with_reducible refine Blk.drew ?_) | (with_reducible refine Blk.drewN ?_ _) | ((with_reducible refine Blk.far ?_ ?_ _); rotate_left; focus (first | omega | (simp; done) | (simp; omega))) | (refine Blk.keep ?_ (by with_reducible assumption)) | (refine Blk.below ?_ (by with_reducible assumption) (by (first | omega | (simp; done) | (simp; omega))))))
  replace hc1 := BK1.cell; replace hf1 := BK1.frozen; replace hl1 := BK1.lt
  obtain ⟨D, dd, rfl⟩ := SlOwn.form (_root_.id ho3)
  clear ho3
  have hrA : Reads w3 w3.heap.size A2 (X.map byteV) := (Reads.of_own ho2).keep hb3 (by omega)
  cases hcd : code == 2
  · have HY : Hid (RB = true ∧ RD = ⟨X.take a, []⟩) := Lib.hid (have h1 : RB = true := (by rw [hRB, hok, hcd]; rfl); ⟨h1, hRY h1⟩)
    have hcd2 : decide (code = 2) = false := by simpa using hcd
    have HTl : Hid ((X.take a).length = a) := Lib.hid (by rw [List.length_take]; omega)
    have hrT : Reads w3 w3.heap.size A2 ((X.take a).map byteV) := by
      rw [← List.take_append_drop a X, List.map_append] at hrA
      exact hrA.prefix_
    clear hok hRY hRN hRB ho2
    go_wp2_with fail
    refine (Calls.cast (by rw [HTl.out]) (HBy.out A2 c2 _ hrT)).mono ?_
    rintro e w4 ⟨A4, c4, rfl, ho4, hb4⟩
    have hz4 := hb4.size; try simp at hz4
    replace BK0 : Blk w4 w.heap.size 44 #[.slice A0 d.Safe.length c0, .slice A1 d.Loose.length c1] := by (repeat (first | (with_reducible assumption) | ((with_reducible refine Blk.new' ?_); focus (simp; done)) | (with_reducible refine Blk.alloc ?_ _) | (with_reducible refine Blk.drew ?_) | (with_reducible refine Blk.drewN ?_ _) | ((with_reducible refine Blk.far ?_ ?_ _); rotate_left; focus (first | omega | (simp; done) | (simp; omega))) | (refine Blk.keep ?_ (by with_reducible assumption)) | (refine Blk.below ?_ (by with_reducible assumption) (by (first | omega | (simp; done) | (simp; omega))))))
    replace hc0 := BK0.cell; replace hf0 := BK0.frozen; replace hl0 := BK0.lt
    replace BK1 : Blk w4 (w.heap.size + 1) 44 #[.slice none 0 0, .slice none 0 0] := by (repeat (first | (with_reducible assumption) | ((with_reducible refine Blk.new' ?_); focus (simp; done)) | (with_reducible refine Blk.alloc ?_ _) | (with_reducible refine Blk.drew ?_) | (with_reducible refine Blk.drewN ?_ _) | ((with_reducible refine Blk.far ?_ ?_ _); rotate_left; focus (first | omega | (simp; done) | (simp; omega))) | (refine Blk.keep ?_ (by with_reducible assumption)) | (refine Blk.below ?_ (by with_reducible assumption) (by (first | omega | (simp; done) | (simp; omega))))))
    replace hc1 := BK1.cell; replace hf1 := BK1.frozen; replace hl1 := BK1.lt
    have hS := of_own_in_ByteS ho4
    have hN4 := SlOwn.nil byteR 5 w4 (fun _ => False)
    rw [HTl.out] at hS
    have HO := Lib.hid (of_own_Disk (x := ⟨X.take a, []⟩) hS hN4 (fun _ h => h) (fun _ h => h.elim) (fun _ _ h => h))
    go_wp2
    refine bodyPost_ret (v := .tuple #[.agg #[.slice A4 a c4, .slice none 0 0], .bool true]) (by simp [results, Try.results38, go_sem, hc1, hf1]) rfl ⟨[.slice A4 a c4, .slice none 0 0], by rw [HY.out.1], ?_, by (repeat (first | (with_reducible exact Below.refl _ _) | (with_reducible assumption) | ((with_reducible refine Below.setCell ?_ ?_ _); rotate_left; focus (first | omega | (simp; done) | (simp; omega))) | ((with_reducible refine Below.alloc ?_ ?_ _); rotate_left; focus (first | omega | (simp; done) | (simp; omega))) | (with_reducible refine Below.drew ?_) | (with_reducible refine below_drewN ?_ _) | (refine Below.trans ?_ (Below.mono (by with_reducible assumption) (by (first | omega | (simp; done) | (simp; omega)))))))⟩
    rw [HY.out.2]
    exact DiskR.own_wide (DiskR.own_off HO.out (by (repeat (first | (with_reducible exact Out.refl _ _) | (with_reducible assumption) | ((with_reducible refine Out.setCell ?_ ?_ _); rotate_left; focus (first | (refine Or.inl ?_; (first | omega | (simp; done) | (simp; omega))) | (refine Or.inr ?_; (first | omega | (simp; done) | (simp; omega))))) | (with_reducible refine Out.alloc ?_ _) | (with_reducible refine Out.drew ?_) | (with_reducible refine Out.drewN ?_ _) | (refine Out.step ?_ (by with_reducible assumption)))))) (inR_mono (by first | omega | (simp; done) | (simp; omega)) (by first | omega | (simp; done) | (simp; omega)))
  have HN : Hid (RB = false ∧ RD = d) := Lib.hid (have h1 : RB = false := (by rw [hRB, hok, hcd]; rfl); ⟨h1, hRN h1⟩)
  obtain rfl : code = 2 := by simpa using hcd
  clear hok hcd hRY hRN hRB
  go_wp2_with fail
  refine (HCp.out _ (hR.out _ (by (repeat (first | (with_reducible exact Below.refl _ _) | (with_reducible assumption) | ((with_reducible refine Below.setCell ?_ ?_ _); rotate_left; focus (first | omega | (simp; done) | (simp; omega))) | ((with_reducible refine Below.alloc ?_ ?_ _); rotate_left; focus (first | omega | (simp; done) | (simp; omega))) | (with_reducible refine Below.drew ?_) | (with_reducible refine below_drewN ?_ _) | (refine Below.trans ?_ (Below.mono (by with_reducible assumption) (by (first | omega | (simp; done) | (simp; omega)))))))) (by first | omega | (simp; done) | (simp; omega)))).mono ?_
  rintro e w4 ⟨cs2, rfl, ho4, hb4⟩
  have hz4 := hb4.size; try simp at hz4
  replace BK0 : Blk w4 w.heap.size 44 #[.slice A0 d.Safe.length c0, .slice A1 d.Loose.length c1] := by (repeat (first | (with_reducible assumption) | ((with_reducible refine Blk.new' ?_); focus (simp; done)) | (with_reducible refine Blk.alloc ?_ _) | (with_reducible refine Blk.drew ?_) | (with_reducible refine Blk.drewN ?_ _) | ((with_reducible refine Blk.far ?_ ?_ _); rotate_left; focus (first | omega | (simp; done) | (simp; omega))) | (refine Blk.keep ?_ (by with_reducible assumption)) | (refine Blk.below ?_ (by with_reducible assumption) (by (first | omega | (simp; done) | (simp; omega))))))
  replace hc0 := BK0.cell; replace hf0 := BK0.frozen; replace hl0 := BK0.lt
  replace BK1 : Blk w4 (w.heap.size + 1) 44 #[.slice none 0 0, .slice none 0 0] := by (repeat (first | (with_reducible assumption) | ((with_reducible refine Blk.new' ?_); focus (simp; done)) | (with_reducible refine Blk.alloc ?_ _) | (with_reducible refine Blk.drew ?_) | (with_reducible refine Blk.drewN ?_ _) | ((with_reducible refine Blk.far ?_ ?_ _); rotate_left; focus (first | omega | (simp; done) | (simp; omega))) | (refine Blk.keep ?_ (by with_reducible assumption)) | (refine Blk.below ?_ (by with_reducible assumption) (by (first | omega | (simp; done) | (simp; omega))))))
  replace hc1 := BK1.cell; replace hf1 := BK1.frozen; replace hl1 := BK1.lt
  obtain ⟨_, _, _, _, rfl, p0, p1, -⟩ := own_Disk (_root_.id ho4)
  obtain ⟨D0, d0, rfl⟩ := p0.form
  obtain ⟨D1, d1, rfl⟩ := p1.form
  go_wp2
  refine bodyPost_ret (v := .tuple #[.agg #[.slice D0 d.Safe.length d0, .slice D1 d.Loose.length d1], .bool false]) (by simp [results, Try.results38, go_sem, hc1, hf1]) rfl ⟨[.slice D0 d.Safe.length d0, .slice D1 d.Loose.length d1], by rw [HN.out.1], ?_, by (repeat (first | (with_reducible exact Below.refl _ _) | (with_reducible assumption) | ((with_reducible refine Below.setCell ?_ ?_ _); rotate_left; focus (first | omega | (simp; done) | (simp; omega))) | ((with_reducible refine Below.alloc ?_ ?_ _); rotate_left; focus (first | omega | (simp; done) | (simp; omega))) | (with_reducible refine Below.drew ?_) | (with_reducible refine below_drewN ?_ _) | (refine Below.trans ?_ (Below.mono (by with_reducible assumption) (by (first | omega | (simp; done) | (simp; omega)))))))⟩
  rw [HN.out.2]
  exact DiskR.own_wide (DiskR.own_off ho4 (by (repeat (first | (with_reducible exact Out.refl _ _) | (with_reducible assumption) | ((with_reducible refine Out.setCell ?_ ?_ _); rotate_left; focus (first | (refine Or.inl ?_; (first | omega | (simp; done) | (simp; omega))) | (refine Or.inr ?_; (first | omega | (simp; done) | (simp; omega))))) | (with_reducible refine Out.alloc ?_ _) | (with_reducible refine Out.drew ?_) | (with_reducible refine Out.drewN ?_ _) | (refine Out.step ?_ (by with_reducible assumption)))))) (inR_mono (by first | omega | (simp; done) | (simp; omega)) (by first | omega | (simp; done) | (simp; omega)))
set_option maxHeartbeats 3200000 in
theorem impl_RepairLogL (cs : List Value) (d : Disk) (w : World) (h : DiskR.Rd w w.heap.size cs d) (hm : DiskR.sz d ≤ 1048576) :
    Calls Try.prog 39 #[.agg cs.toArray] w fun e w' => ∃ cs', e = .returned (.tuple #[.agg cs'.toArray, .bool (repB d)]) ∧ DiskR.Own w' (InR w.heap.size w'.heap.size) cs' (repD d) ∧ Below w.heap.size w w' := by
  obtain ⟨v0, v1, rfl, q0, q1⟩ := rd_Disk (_root_.id h)
  obtain ⟨A0, c0, rfl⟩ := q0.form
  obtain ⟨A1, c1, rfl⟩ := q1.form
  have hl := len_sz_Disk hm
  obtain ⟨-, r0, k0, k0'⟩ := rd_ByteS q0
  obtain ⟨-, r1, k1, k1'⟩ := rd_ByteS q1
  have hR := Lib.hid (fun (w' : World) (hb : Below w.heap.size w w') (hz : w.heap.size ≤ w'.heap.size) => DiskR.rd_keep h hb hz)
  have HOk := Lib.hid (fun (w' : World) (h : DiskR.Rd w' w'.heap.size [.slice A0 d.Safe.length c0, .slice A1 d.Loose.length c1] d) => impl_isDisk _ d w' h hm)
  have HCp := Lib.hid (fun (w' : World) (h : DiskR.Rd w' w'.heap.size [.slice A0 d.Safe.length c0, .slice A1 d.Loose.length c1] d) => impl_cloneDisk _ d w' h hm)
  have HA := Lib.hid (fun (w' : World) (h : DiskR.Rd w' w'.heap.size [.slice A0 d.Safe.length c0, .slice A1 d.Loose.length c1] d) => impl_whole _ d w' h hm)
  have hal := all_len d
  have HSc := Lib.hid (fun (A : Option Addr) (c : Nat) (w' : World) (h : Reads w' w'.heap.size A (d.all.map byteV)) (a : d.all.length ≤ c) (b : c ≤ 9223372036854775807) => impl_scanFrames A c d.all w' h a b (by omega))
  have hat := scanF_at d.all
  have hRY := repD_yes (d := d)
  have hRN := repD_no (d := d)
  have hRB : repB d = (d.ok && !((scanF d.all).2.2 == 2)) := rfl
  generalize repD d = RD at *
  generalize repB d = RB at *
  generalize (scanF d.all).1 = L at *
  generalize (scanF d.all).2.1 = a at *
  generalize (scanF d.all).2.2 = code at *
  have hall : (d.Safe ++ d.Loose) = d.all := rfl
  rw [hall] at HA
  generalize d.all = X at *
  have hXl : X.length ≤ 1048576 := by omega
  clear hal hall
  cases hok : d.ok
  · have HN : Hid (RB = false ∧ RD = d) := Lib.hid (have h1 : RB = false := (by rw [hRB, hok]; rfl); ⟨h1, hRN h1⟩)
    rw [hok] at HOk
    clear hok HA HSc hRY hRN hRB
    go_enter Try.func39, Try.ntmps39
    go_wp2_with fail
    refine (HOk.out _ (hR.out _ (by (repeat (first | (with_reducible exact Below.refl _ _) | (with_reducible assumption) | ((with_reducible refine Below.setCell ?_ ?_ _); rotate_left; focus (first | omega | (simp; done) | (simp; omega))) | ((with_reducible refine Below.alloc ?_ ?_ _); rotate_left; focus (first | omega | (simp; done) | (simp; omega))) | (with_reducible refine Below.drew ?_) | (with_reducible refine below_drewN ?_ _) | (refine Below.trans ?_ (Below.mono (by with_reducible assumption) (by (first | omega | (simp; done) | (simp; omega)))))))) (by first | omega | (simp; done) | (simp; omega)))).mono ?_
    rintro e w1 ⟨rfl, hb1⟩
    have hz1 := hb1.size; try simp at hz1
    have BK0 : Blk w1 w.heap.size 44 #[.slice A0 d.Safe.length c0, .slice A1 d.Loose.length c1] := by (repeat (first | (with_reducible assumption) | ((with_reducible refine Blk.new' ?_); focus (simp; done)) | (with_reducible refine Blk.alloc ?_ _) | (with_reducible refine Blk.drew ?_) | (with_reducible refine Blk.drewN ?_ _) | ((with_reducible refine Blk.far ?_ ?_ _); rotate_left; focus (first | omega | (simp; done) | (simp; omega))) | (refine Blk.keep ?_ (by with_reducible assumption)) | (refine Blk.below ?_ (by with_reducible assumption) (by (first | omega | (simp; done) | (simp; omega))))))
    have hc0 := BK0.cell; have hf0 := BK0.frozen; have hl0 := BK0.lt
    have BK1 : Blk w1 (w.heap.size + 1) 44 #[.slice none 0 0, .slice none 0 0] := by (repeat (first | (with_reducible assumption) | ((with_reducible refine Blk.new' ?_); focus (simp; done)) | (with_reducible refine Blk.alloc ?_ _) | (with_reducible refine Blk.drew ?_) | (with_reducible refine Blk.drewN ?_ _) | ((with_reducible refine Blk.far ?_ ?_ _); rotate_left; focus (first | omega | (simp; done) | (simp; omega))) | (refine Blk.keep ?_ (by with_reducible assumption)) | (refine Blk.below ?_ (by with_reducible assumption) (by (first | omega | (simp; done) | (simp; omega))))))
    have hc1 := BK1.cell; have hf1 := BK1.frozen; have hl1 := BK1.lt
    go_wp2_with fail
    refine (HCp.out _ (hR.out _ (by (repeat (first | (with_reducible exact Below.refl _ _) | (with_reducible assumption) | ((with_reducible refine Below.setCell ?_ ?_ _); rotate_left; focus (first | omega | (simp; done) | (simp; omega))) | ((with_reducible refine Below.alloc ?_ ?_ _); rotate_left; focus (first | omega | (simp; done) | (simp; omega))) | (with_reducible refine Below.drew ?_) | (with_reducible refine below_drewN ?_ _) | (refine Below.trans ?_ (Below.mono (by with_reducible assumption) (by (first | omega | (simp; done) | (simp; omega)))))))) (by first | omega | (simp; done) | (simp; omega)))).mono ?_
    rintro e w2 ⟨cs2, rfl, ho2, hb2⟩
    have hz2 := hb2.size; try simp at hz2
    replace BK0 : Blk w2 w.heap.size 44 #[.slice A0 d.Safe.length c0, .slice A1 d.Loose.length c1] := by (repeat (first | (with_reducible assumption) | ((with_reducible refine Blk.new' ?_); focus (simp; done)) | (with_reducible refine Blk.alloc ?_ _) | (with_reducible refine Blk.drew ?_) | (with_reducible refine Blk.drewN ?_ _) | ((with_reducible refine Blk.far ?_ ?_ _); rotate_left; focus (first | omega | (simp; done) | (simp; omega))) | (refine Blk.keep ?_ (by with_reducible assumption)) | (refine Blk.below ?_ (by with_reducible assumption) (by (first | omega | (simp; done) | (simp; omega))))))
    replace hc0 := BK0.cell; replace hf0 := BK0.frozen; replace hl0 := BK0.lt
    replace BK1 : Blk w2 (w.heap.size + 1) 44 #[.slice none 0 0, .slice none 0 0] := by (repeat (first | (with_reducible assumption) | ((with_reducible refine Blk.new' ?_); focus (simp; done)) | (with_reducible refine Blk.alloc ?_ _) | (with_reducible refine Blk.drew ?_) | (with_reducible refine Blk.drewN ?_ _) | ((with_reducible refine Blk.far ?_ ?_ _); rotate_left; focus (first | omega | (simp; done) | (simp; omega))) | (refine Blk.keep ?_ (by with_reducible assumption)) | (refine Blk.below ?_ (by with_reducible assumption) (by (first | omega | (simp; done) | (simp; omega))))))
    replace hc1 := BK1.cell; replace hf1 := BK1.frozen; replace hl1 := BK1.lt
    obtain ⟨_, _, _, _, rfl, p0, p1, -⟩ := own_Disk (_root_.id ho2)
    obtain ⟨D0, d0, rfl⟩ := p0.form
    obtain ⟨D1, d1, rfl⟩ := p1.form
    go_wp2
    refine bodyPost_ret (v := .tuple #[.agg #[.slice D0 d.Safe.length d0, .slice D1 d.Loose.length d1], .bool false]) (by simp [results, Try.results39, go_sem, hc1, hf1]) rfl ⟨[.slice D0 d.Safe.length d0, .slice D1 d.Loose.length d1], by rw [HN.out.1], ?_, by (repeat (first | (with_reducible exact Below.refl _ _) | (with_reducible assumption) | ((with_reducible refine Below.setCell ?_ ?_ _); rotate_left; focus (first | omega | (simp; done) | (simp; omega))) | ((with_reducible refine Below.alloc ?_ ?_ _); rotate_left; focus (first | omega | (simp; done) | (simp; omega))) | (with_reducible refine Below.drew ?_) | (with_reducible refine below_drewN ?_ _) | (refine Below.trans ?_ (Below.mono (by with_reducible assumption) (by (first | omega | (simp; done) | (simp; omega)))))))⟩
    rw [HN.out.2]
    exact DiskR.own_wide (DiskR.own_off ho2 (by (repeat (first | (with_reducible exact Out.refl _ _) | (with_reducible assumption) | ((with_reducible refine Out.setCell ?_ ?_ _); rotate_left; focus (first | (refine Or.inl ?_; (first | omega | (simp; done) | (simp; omega))) | (refine Or.inr ?_; (first | omega | (simp; done) | (simp; omega))))) | (with_reducible refine Out.alloc ?_ _) | (with_reducible refine Out.drew ?_) | (with_reducible refine Out.drewN ?_ _) | (refine Out.step ?_ (by with_reducible assumption)))))) (inR_mono (by first | omega | (simp; done) | (simp; omega)) (by first | omega | (simp; done) | (simp; omega)))
  rw [hok] at HOk
  go_enter Try.func39, Try.ntmps39
  go_wp2_with fail
  refine (HOk.out _ (hR.out _ (by (repeat (first | (with_reducible exact Below.refl _ _) | (with_reducible assumption) | ((with_reducible refine Below.setCell ?_ ?_ _); rotate_left; focus (first | omega | (simp; done) | (simp; omega))) | ((with_reducible refine Below.alloc ?_ ?_ _); rotate_left; focus (first | omega | (simp; done) | (simp; omega))) | (with_reducible refine Below.drew ?_) | (with_reducible refine below_drewN ?_ _) | (refine Below.trans ?_ (Below.mono (by with_reducible assumption) (by (first | omega | (simp; done) | (simp; omega)))))))) (by first | omega | (simp; done) | (simp; omega)))).mono ?_
  rintro e w1 ⟨rfl, hb1⟩
  have hz1 := hb1.size; try simp at hz1
  have BK0 : Blk w1 w.heap.size 44 #[.slice A0 d.Safe.length c0, .slice A1 d.Loose.length c1] := by (repeat (first | (with_reducible assumption) | ((with_reducible refine Blk.new' ?_); focus (simp; done)) | (with_reducible refine Blk.alloc ?_ _) | (with_reducible refine Blk.drew ?_) | (with_reducible refine Blk.drewN ?_ _) | ((with_reducible refine Blk.far ?_ ?_ _); rotate_left; focus (first | omega | (simp; done) | (simp; omega))) | (refine Blk.keep ?_ (by with_reducible assumption)) | (refine Blk.below ?_ (by with_reducible assumption) (by (first | omega | (simp; done) | (simp; omega))))))
  have hc0 := BK0.cell; have hf0 := BK0.frozen; have hl0 := BK0.lt
  have BK1 : Blk w1 (w.heap.size + 1) 44 #[.slice none 0 0, .slice none 0 0] := by (repeat (first | (with_reducible assumption) | ((with_reducible refine Blk.new' ?_); focus (simp; done)) | (with_reducible refine Blk.alloc ?_ _) | (with_reducible refine Blk.drew ?_) | (with_reducible refine Blk.drewN ?_ _) | ((with_reducible refine Blk.far ?_ ?_ _); rotate_left; focus (first | omega | (simp; done) | (simp; omega))) | (refine Blk.keep ?_ (by with_reducible assumption)) | (refine Blk.below ?_ (by with_reducible assumption) (by (first | omega | (simp; done) | (simp; omega))))))
  have hc1 := BK1.cell; have hf1 := BK1.frozen; have hl1 := BK1.lt
  go_wp2_with fail
  refine (HA.out _ (hR.out _ (by (repeat (first | (with_reducible exact Below.refl _ _) | (with_reducible assumption) | ((with_reducible refine Below.setCell ?_ ?_ _); rotate_left; focus (first | omega | (simp; done) | (simp; omega))) | ((with_reducible refine Below.alloc ?_ ?_ _); rotate_left; focus (first | omega | (simp; done) | (simp; omega))) | (with_reducible refine Below.drew ?_) | (with_reducible refine below_drewN ?_ _) | (refine Below.trans ?_ (Below.mono (by with_reducible assumption) (by (first | omega | (simp; done) | (simp; omega)))))))) (by first | omega | (simp; done) | (simp; omega)))).mono ?_
  rintro e w2 ⟨A2, c2, rfl, ho2, hb2⟩
  have hz2 := hb2.size; try simp at hz2
  replace BK0 : Blk w2 w.heap.size 44 #[.slice A0 d.Safe.length c0, .slice A1 d.Loose.length c1] := by (repeat (first | (with_reducible assumption) | ((with_reducible refine Blk.new' ?_); focus (simp; done)) | (with_reducible refine Blk.alloc ?_ _) | (with_reducible refine Blk.drew ?_) | (with_reducible refine Blk.drewN ?_ _) | ((with_reducible refine Blk.far ?_ ?_ _); rotate_left; focus (first | omega | (simp; done) | (simp; omega))) | (refine Blk.keep ?_ (by with_reducible assumption)) | (refine Blk.below ?_ (by with_reducible assumption) (by (first | omega | (simp; done) | (simp; omega))))))
  replace hc0 := BK0.cell; replace hf0 := BK0.frozen; replace hl0 := BK0.lt
  replace BK1 : Blk w2 (w.heap.size + 1) 44 #[.slice none 0 0, .slice none 0 0] := by (repeat (first | (with_reducible assumption) | ((with_reducible refine Blk.new' ?_); focus (simp; done)) | (with_reducible refine Blk.alloc ?_ _) | (with_reducible refine Blk.drew ?_) | (with_reducible refine Blk.drewN ?_ _) | ((with_reducible refine Blk.far ?_ ?_ _); rotate_left; focus (first | omega | (simp; done) | (simp; omega))) | (refine Blk.keep ?_ (by with_reducible assumption)) | (refine Blk.below ?_ (by with_reducible assumption) (by (first | omega | (simp; done) | (simp; omega))))))
  replace hc1 := BK1.cell; replace hf1 := BK1.frozen; replace hl1 := BK1.lt
  have hcap := own_cap ho2
  have hcap2 := own_max ho2
  go_wp2_with fail
  refine (HSc.out _ _ _ (Reads.of_own ho2) hcap hcap2).mono ?_
  rintro e w3 ⟨v, rfl, ho3, hb3⟩
  have hz3 := hb3.size; try simp at hz3
  replace BK0 : Blk w3 w.heap.size 44 #[.slice A0 d.Safe.length c0, .slice A1 d.Loose.length c1] := by (repeat (first | (with_reducible assumption) | ((with_reducible refine Blk.new' ?_); focus (simp; done)) | (with_reducible refine Blk.alloc ?_ _) | (with_reducible refine Blk.drew ?_) | (with_reducible refine Blk.drewN ?_ _) | ((with_reducible refine Blk.far ?_ ?_ _); rotate_left; focus (first | omega | (simp; done) | (simp; omega))) | (refine Blk.keep ?_ (by with_reducible assumption)) | (refine Blk.below ?_ (by with_reducible assumption) (by (first | omega | (simp; done) | (simp; omega))))))
  replace hc0 := BK0.cell; replace hf0 := BK0.frozen; replace hl0 := BK0.lt
  replace BK1 : Blk w3 (w.heap.size + 1) 44 #[.slice none 0 0, .slice none 0 0] := by (repeat (first | (with_reducible assumption) | ((with_reducible refine Blk.new' ?_); focus (simp; done)) | (with_reducible refine Blk.alloc ?_ _) | (with_reducible refine Blk.drew ?_) | (with_reducible refine Blk.drewN ?_ _) | ((with_reducible refine Blk.far ?_ ?_ _); rotate_left; focus (first | omega | (simp; done) | (simp; omega))) | (refine Blk.keep ?_ (by with_reducible assumption)) | (refine Blk.below ?_ (by with_reducible assumption) (by (first | omega | (simp; done) | (simp; omega))))))
  replace hc1 := BK1.cell; replace hf1 := BK1.frozen; replace hl1 := BK1.lt
  obtain ⟨D, dd, rfl⟩ := SlOwn.form (_root_.id ho3)
  clear ho3
  have hrA : Reads w3 w3.heap.size A2 (X.map byteV) := (Reads.of_own ho2).keep hb3 (by omega)
  cases hcd : code == 2
  · have HY : Hid (RB = true ∧ RD = ⟨X.take a, []⟩) := Lib.hid (have h1 : RB = true := (by rw [hRB, hok, hcd]; rfl); ⟨h1, hRY h1⟩)
    have hcd2 : decide (code = 2) = false := by simpa using hcd
    have HTl : Hid ((X.take a).length = a) := Lib.hid (by rw [List.length_take]; omega)
    clear hok hRY hRN hRB ho2 hrA
    go_wp2_with fail
    refine (HA.out _ (hR.out _ (by (repeat (first | (with_reducible exact Below.refl _ _) | (with_reducible assumption) | ((with_reducible refine Below.setCell ?_ ?_ _); rotate_left; focus (first | omega | (simp; done) | (simp; omega))) | ((with_reducible refine Below.alloc ?_ ?_ _); rotate_left; focus (first | omega | (simp; done) | (simp; omega))) | (with_reducible refine Below.drew ?_) | (with_reducible refine below_drewN ?_ _) | (refine Below.trans ?_ (Below.mono (by with_reducible assumption) (by (first | omega | (simp; done) | (simp; omega)))))))) (by first | omega | (simp; done) | (simp; omega)))).mono ?_
    rintro e w4 ⟨A4, c4, rfl, ho4, hb4⟩
    have hz4 := hb4.size; try simp at hz4
    replace BK0 : Blk w4 w.heap.size 44 #[.slice A0 d.Safe.length c0, .slice A1 d.Loose.length c1] := by (repeat (first | (with_reducible assumption) | ((with_reducible refine Blk.new' ?_); focus (simp; done)) | (with_reducible refine Blk.alloc ?_ _) | (with_reducible refine Blk.drew ?_) | (with_reducible refine Blk.drewN ?_ _) | ((with_reducible refine Blk.far ?_ ?_ _); rotate_left; focus (first | omega | (simp; done) | (simp; omega))) | (refine Blk.keep ?_ (by with_reducible assumption)) | (refine Blk.below ?_ (by with_reducible assumption) (by (first | omega | (simp; done) | (simp; omega))))))
    replace hc0 := BK0.cell; replace hf0 := BK0.frozen; replace hl0 := BK0.lt
    replace BK1 : Blk w4 (w.heap.size + 1) 44 #[.slice none 0 0, .slice none 0 0] := by (repeat (first | (with_reducible assumption) | ((with_reducible refine Blk.new' ?_); focus (simp; done)) | (with_reducible refine Blk.alloc ?_ _) | (with_reducible refine Blk.drew ?_) | (with_reducible refine Blk.drewN ?_ _) | ((with_reducible refine Blk.far ?_ ?_ _); rotate_left; focus (first | omega | (simp; done) | (simp; omega))) | (refine Blk.keep ?_ (by with_reducible assumption)) | (refine Blk.below ?_ (by with_reducible assumption) (by (first | omega | (simp; done) | (simp; omega))))))
    replace hc1 := BK1.cell; replace hf1 := BK1.frozen; replace hl1 := BK1.lt
    have hcap4 := own_cap ho4
    have hS := of_own_in_ByteS (Eq.mpr (by rw [HTl.out, List.map_take]) (own_take ho4 hat) : w4.ownsRow w3.heap.size 5 1 (.slice A4 (X.take a).length c4) (X.take a).length ((X.take a).map byteV))
    have hN4 := SlOwn.nil byteR 5 w4 (fun _ => False)
    rw [HTl.out] at hS
    have HO := Lib.hid (of_own_Disk (x := ⟨X.take a, []⟩) hS hN4 (fun _ h => h) (fun _ h => h.elim) (fun _ _ h => h))
    have hac : a ≤ c4 := by omega
    go_wp2
    refine bodyPost_ret (v := .tuple #[.agg #[.slice A4 a c4, .slice none 0 0], .bool true]) (by simp [results, Try.results39, go_sem, hc1, hf1]) rfl ⟨[.slice A4 a c4, .slice none 0 0], by rw [HY.out.1], ?_, by (repeat (first | (with_reducible exact Below.refl _ _) | (with_reducible assumption) | ((with_reducible refine Below.setCell ?_ ?_ _); rotate_left; focus (first | omega | (simp; done) | (simp; omega))) | ((with_reducible refine Below.alloc ?_ ?_ _); rotate_left; focus (first | omega | (simp; done) | (simp; omega))) | (with_reducible refine Below.drew ?_) | (with_reducible refine below_drewN ?_ _) | (refine Below.trans ?_ (Below.mono (by with_reducible assumption) (by (first | omega | (simp; done) | (simp; omega)))))))⟩
    rw [HY.out.2]
    exact DiskR.own_wide (DiskR.own_off HO.out (by (repeat (first | (with_reducible exact Out.refl _ _) | (with_reducible assumption) | ((with_reducible refine Out.setCell ?_ ?_ _); rotate_left; focus (first | (refine Or.inl ?_; (first | omega | (simp; done) | (simp; omega))) | (refine Or.inr ?_; (first | omega | (simp; done) | (simp; omega))))) | (with_reducible refine Out.alloc ?_ _) | (with_reducible refine Out.drew ?_) | (with_reducible refine Out.drewN ?_ _) | (refine Out.step ?_ (by with_reducible assumption)))))) (inR_mono (by first | omega | (simp; done) | (simp; omega)) (by first | omega | (simp; done) | (simp; omega)))
  have HN : Hid (RB = false ∧ RD = d) := Lib.hid (have h1 : RB = false := (by rw [hRB, hok, hcd]; rfl); ⟨h1, hRN h1⟩)
  obtain rfl : code = 2 := by simpa using hcd
  clear hok hcd hRY hRN hRB
  go_wp2_with fail
  refine (HCp.out _ (hR.out _ (by (repeat (first | (with_reducible exact Below.refl _ _) | (with_reducible assumption) | ((with_reducible refine Below.setCell ?_ ?_ _); rotate_left; focus (first | omega | (simp; done) | (simp; omega))) | ((with_reducible refine Below.alloc ?_ ?_ _); rotate_left; focus (first | omega | (simp; done) | (simp; omega))) | (with_reducible refine Below.drew ?_) | (with_reducible refine below_drewN ?_ _) | (refine Below.trans ?_ (Below.mono (by with_reducible assumption) (by (first | omega | (simp; done) | (simp; omega)))))))) (by first | omega | (simp; done) | (simp; omega)))).mono ?_
  rintro e w4 ⟨cs2, rfl, ho4, hb4⟩
  have hz4 := hb4.size; try simp at hz4
  replace BK0 : Blk w4 w.heap.size 44 #[.slice A0 d.Safe.length c0, .slice A1 d.Loose.length c1] := by (repeat (first | (with_reducible assumption) | ((with_reducible refine Blk.new' ?_); focus (simp; done)) | (with_reducible refine Blk.alloc ?_ _) | (with_reducible refine Blk.drew ?_) | (with_reducible refine Blk.drewN ?_ _) | ((with_reducible refine Blk.far ?_ ?_ _); rotate_left; focus (first | omega | (simp; done) | (simp; omega))) | (refine Blk.keep ?_ (by with_reducible assumption)) | (refine Blk.below ?_ (by with_reducible assumption) (by (first | omega | (simp; done) | (simp; omega))))))
  replace hc0 := BK0.cell; replace hf0 := BK0.frozen; replace hl0 := BK0.lt
  replace BK1 : Blk w4 (w.heap.size + 1) 44 #[.slice none 0 0, .slice none 0 0] := by (repeat (first | (with_reducible assumption) | ((with_reducible refine Blk.new' ?_); focus (simp; done)) | (with_reducible refine Blk.alloc ?_ _) | (with_reducible refine Blk.drew ?_) | (with_reducible refine Blk.drewN ?_ _) | ((with_reducible refine Blk.far ?_ ?_ _); rotate_left; focus (first | omega | (simp; done) | (simp; omega))) | (refine Blk.keep ?_ (by with_reducible assumption)) | (refine Blk.below ?_ (by with_reducible assumption) (by (first | omega | (simp; done) | (simp; omega))))))
  replace hc1 := BK1.cell; replace hf1 := BK1.frozen; replace hl1 := BK1.lt
  obtain ⟨_, _, _, _, rfl, p0, p1, -⟩ := own_Disk (_root_.id ho4)
  obtain ⟨D0, d0, rfl⟩ := p0.form
  obtain ⟨D1, d1, rfl⟩ := p1.form
  go_wp2
  refine bodyPost_ret (v := .tuple #[.agg #[.slice D0 d.Safe.length d0, .slice D1 d.Loose.length d1], .bool false]) (by simp [results, Try.results39, go_sem, hc1, hf1]) rfl ⟨[.slice D0 d.Safe.length d0, .slice D1 d.Loose.length d1], by rw [HN.out.1], ?_, by (repeat (first | (with_reducible exact Below.refl _ _) | (with_reducible assumption) | ((with_reducible refine Below.setCell ?_ ?_ _); rotate_left; focus (first | omega | (simp; done) | (simp; omega))) | ((with_reducible refine Below.alloc ?_ ?_ _); rotate_left; focus (first | omega | (simp; done) | (simp; omega))) | (with_reducible refine Below.drew ?_) | (with_reducible refine below_drewN ?_ _) | (refine Below.trans ?_ (Below.mono (by with_reducible assumption) (by (first | omega | (simp; done) | (simp; omega)))))))⟩
  rw [HN.out.2]
  exact DiskR.own_wide (DiskR.own_off ho4 (by (repeat (first | (with_reducible exact Out.refl _ _) | (with_reducible assumption) | ((with_reducible refine Out.setCell ?_ ?_ _); rotate_left; focus (first | (refine Or.inl ?_; (first | omega | (simp; done) | (simp; omega))) | (refine Or.inr ?_; (first | omega | (simp; done) | (simp; omega))))) | (with_reducible refine Out.alloc ?_ _) | (with_reducible refine Out.drew ?_) | (with_reducible refine Out.drewN ?_ _) | (refine Out.step ?_ (by with_reducible assumption)))))) (inR_mono (by first | omega | (simp; done) | (simp; omega)) (by first | omega | (simp; done) | (simp; omega)))
end Go.Proofs.Ytgaenfkjobkmjaa

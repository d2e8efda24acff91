/- ReadLog, both sides. -/
import Derived.Test.YtgaenfkjobkmjabPureLog
import Derived.Test.YtgaenfkjobkmjabSpecScan
import Derived.Test.YtgaenfkjobkmjabImplScan
set_option linter.unusedSimpArgs false
set_option linter.unusedVariables false
set_option maxRecDepth 20000
namespace Go.Proofs.Ytgaenfkjobkmjab
open Go.RowKit
theorem own_take {w : World} {base n c a : Nat} {e : TypeId} {A : Option Addr} {xs : List Value} (h : w.ownsRow base e 1 (.slice A n c) n xs) (ha : a ≤ n) : w.ownsRow base e 1 (.slice A a c) a (xs.take a) := by
  have hl : xs.length = n * 1 := h.1
  refine ⟨by rw [List.length_take]; omega, ?_⟩
  rcases h.2 with ⟨hv, hn⟩ | ⟨g, cap, cur, hv, hb, hg, hnc, hcm, hcs, htake⟩
  · simp only [Value.slice.injEq] at hv
    obtain ⟨rfl, rfl, rfl⟩ := hv
    obtain rfl : a = 0 := by omega
    exact .inl ⟨rfl, rfl⟩
  · simp only [Value.slice.injEq] at hv
    obtain ⟨rfl, _, rfl⟩ := hv
    refine .inr ⟨g, c, cur, rfl, hb, hg, by omega, hcm, hcs, ?_⟩
    rw [← htake, List.take_take]
    congr 1
    omega
theorem own_max {w : World} {base n c size : Nat} {e : TypeId} {A : Option Addr} {xs : List Value} (h : w.ownsRow base e size (.slice A n c) n xs) : c ≤ 9223372036854775807 := by
  rcases h.2 with ⟨hv, hn⟩ | ⟨g, cap, cur, hv, _, _, _, hcm, _⟩
  · simp only [Value.slice.injEq] at hv; omega
  · simp only [Value.slice.injEq] at hv; simp only [maxLen] at hcm; omega
set_option maxHeartbeats 3200000 in
theorem spec_ReadLogL (cs : List Value) (d : Disk) (w : World) (h : DiskR.Rd w w.heap.size cs d) (hm : DiskR.sz d ≤ 1048576) :
    Calls Try.prog 5 #[.agg cs.toArray] w fun e w' => ∃ v, e = .returned (.tuple #[v, .int .i64 (readC d)]) ∧ SlOwn RecordR 47 w' (InR w.heap.size w'.heap.size) v (readL d) ∧ Below w.heap.size w w' := by
  obtain ⟨v0, v1, rfl, q0, q1⟩ := rd_Disk (_root_.id h)
  obtain ⟨A0, c0, rfl⟩ := q0.form
  obtain ⟨A1, c1, rfl⟩ := q1.form
  have hl := len_sz_Disk hm
  obtain ⟨-, r0, k0, k0'⟩ := rd_ByteS q0
  obtain ⟨-, r1, k1, k1'⟩ := rd_ByteS q1
  have hR := Lib.hid (fun (w' : World) (hb : Below w.heap.size w w') (hz : w.heap.size ≤ w'.heap.size) => DiskR.rd_keep h hb hz)
  have HOk := Lib.hid (fun (w' : World) (h : DiskR.Rd w' w'.heap.size [.slice A0 d.Safe.length c0, .slice A1 d.Loose.length c1] d) => spec_DiskOk _ d w' h hm)
  have HA := Lib.hid (fun (w' : World) (h0 : Reads w' w'.heap.size A0 (d.Safe.map byteV)) (h1 : Reads w' w'.heap.size A1 (d.Loose.map byteV)) => spec_l01Join A0 A1 c0 c1 d.Safe d.Loose w' h0 h1 (by omega) (by omega))
  have hal := all_len d
  have HSc := Lib.hid (fun (A : Option Addr) (c : Nat) (w' : World) (h : Reads w' w'.heap.size A (d.all.map byteV)) (a : d.all.length ≤ c) (b : c ≤ 9223372036854775807) => spec_ScanFrames A c d.all w' h a b (by omega))
  have hRL := read_yes (d := d)
  have hRN := read_no (d := d)
  generalize readL d = RL at *
  generalize readC d = RC at *
  generalize (scanF d.all).1 = L at *
  generalize (scanF d.all).2.1 = a at *
  generalize (scanF d.all).2.2 = code at *
  have hall : (d.Safe ++ d.Loose) = d.all := rfl
  rw [hall] at HA
  generalize d.all = X at *
  have hXl : X.length ≤ 1048576 := by omega
  clear hal hall
  cases hok : d.ok
  · have HN := Lib.hid (hRN hok)
    rw [hok] at HOk
    clear hok HA HSc hRL hRN
    go_enter Try.func5, Try.ntmps5
    go_wp2_with fail
    refine (HOk.out _ (hR.out _ (by (repeat (first | (with_reducible exact Below.refl _ _) | (with_reducible assumption) | ((with_reducible refine Below.setCell ?_ ?_ _); rotate_left; focus (first | omega | (simp; done) | (simp; omega))) | ((with_reducible refine Below.alloc ?_ ?_ _); rotate_left; focus (first | omega | (simp; done) | (simp; omega))) | (with_reducible refine Below.drew ?_) | (with_reducible refine below_drewN ?_ _) | (refine Below.trans ?_ (Below.mono (by with_reducible assumption) (by (first | omega | (simp; done) | (simp; omega)))))))) (by first | omega | (simp; done) | (simp; omega)))).mono ?_
    rintro e w1 ⟨rfl, hb1⟩
    have hz1 := hb1.size; try simp at hz1
    go_wp2
    go_ret2
    exact ⟨.slice none 0 0, by rw [HN.out.2]; rfl, by rw [HN.out.1]; exact SlOwn.nil _ _ _ _, by (repeat (first | (with_reducible exact Below.refl _ _) | (with_reducible assumption) | ((with_reducible refine Below.setCell ?_ ?_ _); rotate_left; focus (first | omega | (simp; done) | (simp; omega))) | ((with_reducible refine Below.alloc ?_ ?_ _); rotate_left; focus (first | omega | (simp; done) | (simp; omega))) | (with_reducible refine Below.drew ?_) | (with_reducible refine below_drewN ?_ _) | (refine Below.trans ?_ (Below.mono (by with_reducible assumption) (by (first | omega | (simp; done) | (simp; omega)))))))⟩
  have HY := Lib.hid (hRL hok)
  rw [hok] at HOk
  clear hok hRL hRN
  go_enter Try.func5, Try.ntmps5
  go_wp2_with fail
  refine (HOk.out _ (hR.out _ (by (repeat (first | (with_reducible exact Below.refl _ _) | (with_reducible assumption) | ((with_reducible refine Below.setCell ?_ ?_ _); rotate_left; focus (first | omega | (simp; done) | (simp; omega))) | ((with_reducible refine Below.alloc ?_ ?_ _); rotate_left; focus (first | omega | (simp; done) | (simp; omega))) | (with_reducible refine Below.drew ?_) | (with_reducible refine below_drewN ?_ _) | (refine Below.trans ?_ (Below.mono (by with_reducible assumption) (by (first | omega | (simp; done) | (simp; omega)))))))) (by first | omega | (simp; done) | (simp; omega)))).mono ?_
  rintro e w1 ⟨rfl, hb1⟩
  have hz1 := hb1.size; try simp at hz1
  have BK0 : Blk w1 w.heap.size 29 #[.slice A0 d.Safe.length c0, .slice A1 d.Loose.length c1] := by (repeat (first | (with_reducible assumption) | ((with_reducible refine Blk.new' ?_); focus (simp; done)) | (with_reducible refine Blk.alloc ?_ _) | (with_reducible refine Blk.drew ?_) | (with_reducible refine Blk.drewN ?_ _) | ((with_reducible refine Blk.far ?_ ?_ _); rotate_left; focus (first | omega | (simp; done) | (simp; omega))) | (refine Blk.keep ?_ (by with_reducible assumption)) | (refine Blk.below ?_ (by with_reducible assumption) (by (first | omega | (simp; done) | (simp; omega))))))
  have hc0 := BK0.cell; have hf0 := BK0.frozen; have hl0 := BK0.lt
  go_wp2_with fail
  refine (HA.out _ (r0.keep (by (repeat (first | (with_reducible exact Below.refl _ _) | (with_reducible assumption) | ((with_reducible refine Below.setCell ?_ ?_ _); rotate_left; focus (first | omega | (simp; done) | (simp; omega))) | ((with_reducible refine Below.alloc ?_ ?_ _); rotate_left; focus (first | omega | (simp; done) | (simp; omega))) | (with_reducible refine Below.drew ?_) | (with_reducible refine below_drewN ?_ _) | (refine Below.trans ?_ (Below.mono (by with_reducible assumption) (by (first | omega | (simp; done) | (simp; omega)))))))) (by first | omega | (simp; done) | (simp; omega))) (r1.keep (by (repeat (first | (with_reducible exact Below.refl _ _) | (with_reducible assumption) | ((with_reducible refine Below.setCell ?_ ?_ _); rotate_left; focus (first | omega | (simp; done) | (simp; omega))) | ((with_reducible refine Below.alloc ?_ ?_ _); rotate_left; focus (first | omega | (simp; done) | (simp; omega))) | (with_reducible refine Below.drew ?_) | (with_reducible refine below_drewN ?_ _) | (refine Below.trans ?_ (Below.mono (by with_reducible assumption) (by (first | omega | (simp; done) | (simp; omega)))))))) (by first | omega | (simp; done) | (simp; omega)))).mono ?_
  rintro e w2 ⟨A2, c2, rfl, ho2, hb2⟩
  have hz2 := hb2.size; try simp at hz2
  replace BK0 : Blk w2 w.heap.size 29 #[.slice A0 d.Safe.length c0, .slice A1 d.Loose.length c1] := by (repeat (first | (with_reducible assumption) | ((with_reducible refine Blk.new' ?_); focus (simp; done)) | (with_reducible refine Blk.alloc ?_ _) | (with_reducible refine Blk.drew ?_) | (with_reducible refine Blk.drewN ?_ _) | ((with_reducible refine Blk.far ?_ ?_ _); rotate_left; focus (first | omega | (simp; done) | (simp; omega))) | (refine Blk.keep ?_ (by with_reducible assumption)) | (refine Blk.below ?_ (by with_reducible assumption) (by (first | omega | (simp; done) | (simp; omega))))))
  replace hc0 := BK0.cell; replace hf0 := BK0.frozen; replace hl0 := BK0.lt
  have hcap := own_cap ho2
  have hcap2 := own_max ho2
  go_wp2_with fail
  refine (HSc.out _ _ _ (Reads.of_own ho2) hcap hcap2).mono ?_
  rintro e w3 ⟨v, rfl, ho3, hb3⟩
  have hz3 := hb3.size; try simp at hz3
  replace BK0 : Blk w3 w.heap.size 29 #[.slice A0 d.Safe.length c0, .slice A1 d.Loose.length c1] := by (repeat (first | (with_reducible assumption) | ((with_reducible refine Blk.new' ?_); focus (simp; done)) | (with_reducible refine Blk.alloc ?_ _) | (with_reducible refine Blk.drew ?_) | (with_reducible refine Blk.drewN ?_ _) | ((with_reducible refine Blk.far ?_ ?_ _); rotate_left; focus (first | omega | (simp; done) | (simp; omega))) | (refine Blk.keep ?_ (by with_reducible assumption)) | (refine Blk.below ?_ (by with_reducible assumption) (by (first | omega | (simp; done) | (simp; omega))))))
  replace hc0 := BK0.cell; replace hf0 := BK0.frozen; replace hl0 := BK0.lt
  obtain ⟨D, dd, rfl⟩ := SlOwn.form (_root_.id ho3)
  go_wp2
  go_ret2
  exact ⟨.slice D L.length dd, by rw [HY.out.2]; rfl, by rw [HY.out.1]; exact SlOwn.wide (SlOwn.off ho3 (by (repeat (first | (with_reducible exact Out.refl _ _) | (with_reducible assumption) | ((with_reducible refine Out.setCell ?_ ?_ _); rotate_left; focus (first | (refine Or.inl ?_; (first | omega | (simp; done) | (simp; omega))) | (refine Or.inr ?_; (first | omega | (simp; done) | (simp; omega))))) | (with_reducible refine Out.alloc ?_ _) | (with_reducible refine Out.drew ?_) | (with_reducible refine Out.drewN ?_ _) | (refine Out.step ?_ (by with_reducible assumption)))))) (inR_mono (by first | omega | (simp; done) | (simp; omega)) (by first | omega | (simp; done) | (simp; omega))), by (repeat (first | (with_reducible exact Below.refl _ _) | (with_reducible assumption) | ((with_reducible refine Below.setCell ?_ ?_ _); rotate_left; focus (first | omega | (simp; done) | (simp; omega))) | ((with_reducible refine Below.alloc ?_ ?_ _); rotate_left; focus (first | omega | (simp; done) | (simp; omega))) | (with_reducible refine Below.drew ?_) | (with_reducible refine below_drewN ?_ _) | (refine Below.trans ?_ (Below.mono (by with_reducible assumption) (by (first | omega | (simp; done) | (simp; omega)))))))⟩
set_option maxHeartbeats 3200000 in
theorem impl_ReadLogL (cs : List Value) (d : Disk) (w : World) (h : DiskR.Rd w w.heap.size cs d) (hm : DiskR.sz d ≤ 1048576) :
    Calls Try.prog 7 #[.agg cs.toArray] w fun e w' => ∃ v, e = .returned (.tuple #[v, .int .i64 (readC d)]) ∧ SlOwn RecordR 47 w' (InR w.heap.size w'.heap.size) v (readL d) ∧ Below w.heap.size w w' := by
  obtain ⟨v0, v1, rfl, q0, q1⟩ := rd_Disk (_root_.id h)
  obtain ⟨A0, c0, rfl⟩ := q0.form
  obtain ⟨A1, c1, rfl⟩ := q1.form
  have hl := len_sz_Disk hm
  obtain ⟨-, r0, k0, k0'⟩ := rd_ByteS q0
  obtain ⟨-, r1, k1, k1'⟩ := rd_ByteS q1
  have hR := Lib.hid (fun (w' : World) (hb : Below w.heap.size w w') (hz : w.heap.size ≤ w'.heap.size) => DiskR.rd_keep h hb hz)
  have HOk := Lib.hid (fun (w' : World) (h : DiskR.Rd w' w'.heap.size [.slice A0 d.Safe.length c0, .slice A1 d.Loose.length c1] d) => impl_isDisk _ d w' h hm)
  have HA := Lib.hid (fun (w' : World) (h : DiskR.Rd w' w'.heap.size [.slice A0 d.Safe.length c0, .slice A1 d.Loose.length c1] d) => impl_whole _ d w' h hm)
  have hal := all_len d
  have HSc := Lib.hid (fun (A : Option Addr) (c : Nat) (w' : World) (h : Reads w' w'.heap.size A (d.all.map byteV)) (a : d.all.length ≤ c) (b : c ≤ 9223372036854775807) => impl_scanFrames A c d.all w' h a b (by omega))
  have hRL := read_yes (d := d)
  have hRN := read_no (d := d)
  generalize readL d = RL at *
  generalize readC d = RC at *
  generalize (scanF d.all).1 = L at *
  generalize (scanF d.all).2.1 = a at *
  generalize (scanF d.all).2.2 = code at *
  have hall : (d.Safe ++ d.Loose) = d.all := rfl
  rw [hall] at HA
  generalize d.all = X at *
  have hXl : X.length ≤ 1048576 := by omega
  clear hal hall
  cases hok : d.ok
  · have HN := Lib.hid (hRN hok)
    rw [hok] at HOk
    clear hok HA HSc hRL hRN
    go_enter Try.func7, Try.ntmps7
    go_wp2_with fail
    refine (HOk.out _ (hR.out _ (by (repeat (first | (with_reducible exact Below.refl _ _) | (with_reducible assumption) | ((with_reducible refine Below.setCell ?_ ?_ _); rotate_left; focus (first | omega | (simp; done) | (simp; omega))) | ((with_reducible refine Below.alloc ?_ ?_ _); rotate_left; focus (first | omega | (simp; done) | (simp; omega))) | (with_reducible refine Below.drew ?_) | (with_reducible refine below_drewN ?_ _) | (refine Below.trans ?_ (Below.mono (by with_reducible assumption) (by (first | omega | (simp; done) | (simp; omega)))))))) (by first | omega | (simp; done) | (simp; omega)))).mono ?_
    rintro e w1 ⟨rfl, hb1⟩
    have hz1 := hb1.size; try simp at hz1
    go_wp2
    go_ret2
    exact ⟨.slice none 0 0, by rw [HN.out.2]; rfl, by rw [HN.out.1]; exact SlOwn.nil _ _ _ _, by (repeat (first | (with_reducible exact Below.refl _ _) | (with_reducible assumption) | ((with_reducible refine Below.setCell ?_ ?_ _); rotate_left; focus (first | omega | (simp; done) | (simp; omega))) | ((with_reducible refine Below.alloc ?_ ?_ _); rotate_left; focus (first | omega | (simp; done) | (simp; omega))) | (with_reducible refine Below.drew ?_) | (with_reducible refine below_drewN ?_ _) | (refine Below.trans ?_ (Below.mono (by with_reducible assumption) (by (first | omega | (simp; done) | (simp; omega)))))))⟩
  have HY := Lib.hid (hRL hok)
  rw [hok] at HOk
  clear hok hRL hRN
  go_enter Try.func7, Try.ntmps7
  go_wp2_with fail
  refine (HOk.out _ (hR.out _ (by (repeat (first | (with_reducible exact Below.refl _ _) | (with_reducible assumption) | ((with_reducible refine Below.setCell ?_ ?_ _); rotate_left; focus (first | omega | (simp; done) | (simp; omega))) | ((with_reducible refine Below.alloc ?_ ?_ _); rotate_left; focus (first | omega | (simp; done) | (simp; omega))) | (with_reducible refine Below.drew ?_) | (with_reducible refine below_drewN ?_ _) | (refine Below.trans ?_ (Below.mono (by with_reducible assumption) (by (first | omega | (simp; done) | (simp; omega)))))))) (by first | omega | (simp; done) | (simp; omega)))).mono ?_
  rintro e w1 ⟨rfl, hb1⟩
  have hz1 := hb1.size; try simp at hz1
  have BK0 : Blk w1 w.heap.size 29 #[.slice A0 d.Safe.length c0, .slice A1 d.Loose.length c1] := by (repeat (first | (with_reducible assumption) | ((with_reducible refine Blk.new' ?_); focus (simp; done)) | (with_reducible refine Blk.alloc ?_ _) | (with_reducible refine Blk.drew ?_) | (with_reducible refine Blk.drewN ?_ _) | ((with_reducible refine Blk.far ?_ ?_ _); rotate_left; focus (first | omega | (simp; done) | (simp; omega))) | (refine Blk.keep ?_ (by with_reducible assumption)) | (refine Blk.below ?_ (by with_reducible assumption) (by (first | omega | (simp; done) | (simp; omega))))))
  have hc0 := BK0.cell; have hf0 := BK0.frozen; have hl0 := BK0.lt
  go_wp2_with fail
  refine (HA.out _ (hR.out _ (by (repeat (first | (with_reducible exact Below.refl _ _) | (with_reducible assumption) | ((with_reducible refine Below.setCell ?_ ?_ _); rotate_left; focus (first | omega | (simp; done) | (simp; omega))) | ((with_reducible refine Below.alloc ?_ ?_ _); rotate_left; focus (first | omega | (simp; done) | (simp; omega))) | (with_reducible refine Below.drew ?_) | (with_reducible refine below_drewN ?_ _) | (refine Below.trans ?_ (Below.mono (by with_reducible assumption) (by (first | omega | (simp; done) | (simp; omega)))))))) (by first | omega | (simp; done) | (simp; omega)))).mono ?_
  rintro e w2 ⟨A2, c2, rfl, ho2, hb2⟩
  have hz2 := hb2.size; try simp at hz2
  replace BK0 : Blk w2 w.heap.size 29 #[.slice A0 d.Safe.length c0, .slice A1 d.Loose.length c1] := by (repeat (first | (with_reducible assumption) | ((with_reducible refine Blk.new' ?_); focus (simp; done)) | (with_reducible refine Blk.alloc ?_ _) | (with_reducible refine Blk.drew ?_) | (with_reducible refine Blk.drewN ?_ _) | ((with_reducible refine Blk.far ?_ ?_ _); rotate_left; focus (first | omega | (simp; done) | (simp; omega))) | (refine Blk.keep ?_ (by with_reducible assumption)) | (refine Blk.below ?_ (by with_reducible assumption) (by (first | omega | (simp; done) | (simp; omega))))))
  replace hc0 := BK0.cell; replace hf0 := BK0.frozen; replace hl0 := BK0.lt
  have hcap := own_cap ho2
  have hcap2 := own_max ho2
  go_wp2_with fail
  refine (HSc.out _ _ _ (Reads.of_own ho2) hcap hcap2).mono ?_
  rintro e w3 ⟨v, rfl, ho3, hb3⟩
  have hz3 := hb3.size; try simp at hz3
  replace BK0 : Blk w3 w.heap.size 29 #[.slice A0 d.Safe.length c0, .slice A1 d.Loose.length c1] := by (repeat (first | (with_reducible assumption) | ((with_reducible refine Blk.new' ?_); focus (simp; done)) | (with_reducible refine Blk.alloc ?_ _) | (with_reducible refine Blk.drew ?_) | (with_reducible refine Blk.drewN ?_ _) | ((with_reducible refine Blk.far ?_ ?_ _); rotate_left; focus (first | omega | (simp; done) | (simp; omega))) | (refine Blk.keep ?_ (by with_reducible assumption)) | (refine Blk.below ?_ (by with_reducible assumption) (by (first | omega | (simp; done) | (simp; omega))))))
  replace hc0 := BK0.cell; replace hf0 := BK0.frozen; replace hl0 := BK0.lt
  obtain ⟨D, dd, rfl⟩ := SlOwn.form (_root_.id ho3)
  go_wp2
  go_ret2
  exact ⟨.slice D L.length dd, by rw [HY.out.2]; rfl, by rw [HY.out.1]; exact SlOwn.wide (SlOwn.off ho3 (by (repeat (first | (with_reducible exact Out.refl _ _) | (with_reducible assumption) | ((with_reducible refine Out.setCell ?_ ?_ _); rotate_left; focus (first | (refine Or.inl ?_; (first | omega | (simp; done) | (simp; omega))) | (refine Or.inr ?_; (first | omega | (simp; done) | (simp; omega))))) | (with_reducible refine Out.alloc ?_ _) | (with_reducible refine Out.drew ?_) | (with_reducible refine Out.drewN ?_ _) | (refine Out.step ?_ (by with_reducible assumption)))))) (inR_mono (by first | omega | (simp; done) | (simp; omega)) (by first | omega | (simp; done) | (simp; omega))), by (repeat (first | (with_reducible exact Below.refl _ _) | (with_reducible assumption) | ((with_reducible refine Below.setCell ?_ ?_ _); rotate_left; focus (first | omega | (simp; done) | (simp; omega))) | ((with_reducible refine Below.alloc ?_ ?_ _); rotate_left; focus (first | omega | (simp; done) | (simp; omega))) | (with_reducible refine Below.drew ?_) | (with_reducible refine below_drewN ?_ _) | (refine Below.trans ?_ (Below.mono (by with_reducible assumption) (by (first | omega | (simp; done) | (simp; omega)))))))⟩
end Go.Proofs.Ytgaenfkjobkmjab

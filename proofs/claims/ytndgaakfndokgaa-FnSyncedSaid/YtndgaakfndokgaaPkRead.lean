/- Reading, repairing and rewriting a log, as plain data. ReadLog, both sides. LooseRecords, both sides. RepairLog, both sides. -/
import Derived.Test.YtndgaakfndokgaaPureScan
import Derived.Test.YtndgaakfndokgaaPkLog
import Derived.Test.YtndgaakfndokgaaPkScan
import Derived.Test.YtndgaakfndokgaaImplScan
set_option linter.unusedSimpArgs false
set_option linter.unusedVariables false
set_option maxRecDepth 20000
namespace Go.Proofs.Ytndgaakfndokgaa
open Go.RowKit
def Disk.all (d : Disk) : List UInt8 := d.Safe ++ d.Loose
def readL (d : Disk) : List Record := match d.ok with | true => (scanF d.all).1 | false => []
def readC (d : Disk) : Int := match d.ok with | true => (scanF d.all).2.2 | false => 3
theorem read_yes {d : Disk} (h : d.ok = true) : readL d = (scanF d.all).1 ∧ readC d = (scanF d.all).2.2 := by unfold readL readC; rw [h]; exact ⟨rfl, rfl⟩
theorem read_no {d : Disk} (h : d.ok = false) : readL d = [] ∧ readC d = 3 := by unfold readL readC; rw [h]; exact ⟨rfl, rfl⟩
theorem all_len (d : Disk) : d.all.length = d.Safe.length + d.Loose.length := List.length_append
theorem readL_sz (d : Disk) : szList RecordR (readL d) ≤ DiskR.sz d := by
  cases h : d.ok
  · rw [(read_no h).1]; simp [szList]
  · rw [(read_yes h).1]
    have := scanF_sz d.all
    rw [all_len] at this
    rw [sz_Disk, sz_ByteS, sz_ByteS]; exact this
theorem scanG_at {b : List UInt8} : ∀ (f a : Nat) (acc : List Record), a ≤ b.length → (scanG b f a acc).2.1 ≤ b.length
  | 0, a, acc, h => by rw [scanG]; exact h
  | f + 1, a, acc, h => by
    rcases Nat.lt_or_ge a b.length with hlt | hge
    · by_cases hc : stepC b a = 0
      · rw [scan_go hlt hc]
        have h3 : ¬ b.length - a < headN b a + 6 := by
          intro h3
          by_cases h1 : b.length - a < 2
          · rw [step_short h1] at hc; cases hc
          · cases h2 : withinB (headN b a) 3 4000
            · rw [step_size h1 h2] at hc; cases hc
            · rw [step_torn h1 h2 h3] at hc; cases hc
        exact scanG_at f _ _ (by omega)
      · rw [scan_stop hlt rfl hc]; exact h
    · rw [scan_end hge]; exact h
theorem scanF_at (b : List UInt8) : (scanF b).2.1 ≤ b.length := by
  unfold scanF
  cases decide (b.length ≤ 40000)
  · exact Nat.zero_le _
  · exact scanG_at _ _ _ (Nat.zero_le _)
theorem scanG_code {b : List UInt8} : ∀ (f a : Nat) (acc : List Record), 0 ≤ (scanG b f a acc).2.2 ∧ (scanG b f a acc).2.2 ≤ 2
  | 0, a, acc => by rw [scanG]; show (0 : Int) ≤ 0 ∧ (0 : Int) ≤ 2; decide
  | f + 1, a, acc => by
    rcases Nat.lt_or_ge a b.length with hlt | hge
    · by_cases hc : stepC b a = 0
      · rw [scan_go hlt hc]; exact scanG_code f _ _
      · rw [scan_stop hlt rfl hc]
        show 0 ≤ stepC b a ∧ stepC b a ≤ 2
        unfold stepC
        cases decide (b.length - a < 2) <;> simp only [] <;> (try exact ⟨by decide, by decide⟩)
        cases withinB (headN b a : Int) 3 4000 <;> simp only [] <;> (try exact ⟨by decide, by decide⟩)
        cases decide (b.length - a < headN b a + 6) <;> simp only [] <;> (try exact ⟨by decide, by decide⟩)
        cases goodAt b a <;> exact ⟨by decide, by decide⟩
    · rw [scan_end hge]; show (0 : Int) ≤ 0 ∧ (0 : Int) ≤ 2; decide
theorem scanF_code (b : List UInt8) : 0 ≤ (scanF b).2.2 ∧ (scanF b).2.2 ≤ 2 := by
  unfold scanF
  cases decide (b.length ≤ 40000)
  · show (0 : Int) ≤ 2 ∧ (2 : Int) ≤ 2; decide
  · exact scanG_code _ _ _
def repB (d : Disk) : Bool := d.ok && !((scanF d.all).2.2 == 2)
def repD (d : Disk) : Disk := match repB d with | true => ⟨d.all.take (scanF d.all).2.1, []⟩ | false => d
theorem repD_yes {d : Disk} (h : repB d = true) : repD d = ⟨d.all.take (scanF d.all).2.1, []⟩ := by unfold repD; rw [h]
theorem repD_no {d : Disk} (h : repB d = false) : repD d = d := by unfold repD; rw [h]
theorem repD_sz (d : Disk) : DiskR.sz (repD d) ≤ DiskR.sz d := by
  cases h : repB d
  · rw [repD_no h]; exact Nat.le_refl _
  · rw [repD_yes h, sz_Disk, sz_Disk]
    simp only [sz_ByteS, List.length_take, all_len, List.length_nil]
    omega
def looseN (d : Disk) : Int := match d.ok with | true => ((scanF d.all).1.length : Int) - ((scanF d.Safe).1.length : Int) | false => -1
theorem loose_yes {d : Disk} (h : d.ok = true) : looseN d = ((scanF d.all).1.length : Int) - ((scanF d.Safe).1.length : Int) := by unfold looseN; rw [h]
theorem loose_no {d : Disk} (h : d.ok = false) : looseN d = -1 := by unfold looseN; rw [h]
theorem crash_zero {d : Disk} (h : d.ok = true) : (crashLog d 0).ok = true ∧ (crashLog d 0).all = d.Safe := by
  have h2 := h
  unfold Disk.ok at h2
  rw [decide_eq_true_eq] at h2
  have e : kept 0 d.Loose.length = 0 := by unfold kept; split <;> (try split) <;> omega
  rw [crashLog_ok h, e]
  refine ⟨?_, by simp [Disk.all]⟩
  unfold Disk.ok
  simp; omega
end Go.Proofs.Ytndgaakfndokgaa
namespace Go.Proofs.Ytndgaakfndokgaa
open Go.RowKit
theorem own_take {w : World} {base n c a : Nat} {e : TypeId} {A : Option Addr} {xs : List Value} (h : w.ownsRow base e 1 (.slice A n c) n xs) (ha : a ≤ n) : w.ownsRow base e 1 (.slice A a c) a (xs.take a) := by
  have hl : xs.length = n * 1 := h.1
  refine ⟨by rw [List.length_take]; omega, ?_⟩
  rcases h.2 with ⟨hv, hn⟩ | ⟨g, cap, cur, hv, hb, hg, hnc, hcm, hcs, htake⟩
  · simp only [Value.slice.injEq] at hv
    obtain ⟨rfl, rfl, rfl⟩ := hv
    obtain rfl : a = 0 := by omega
    exact .inl ⟨rfl, rfl⟩
  · simp only [Value.slice.injEq] at hv
    obtain ⟨rfl, _, rfl⟩ := hv
    refine .inr ⟨g, c, cur, rfl, hb, hg, by omega, hcm, hcs, ?_⟩
    rw [← htake, List.take_take]
    congr 1
    omega
theorem own_max {w : World} {base n c size : Nat} {e : TypeId} {A : Option Addr} {xs : List Value} (h : w.ownsRow base e size (.slice A n c) n xs) : c ≤ 9223372036854775807 := by
  rcases h.2 with ⟨hv, hn⟩ | ⟨g, cap, cur, hv, _, _, _, hcm, _⟩
  · simp only [Value.slice.injEq] at hv; omega
  · simp only [Value.slice.injEq] at hv; simp only [maxLen] at hcm; omega
set_option maxHeartbeats 3200000 in
theorem impl_ReadLogL (cs : List Value) (d : Disk) (w : World) (h : DiskR.Rd w w.heap.size cs d) (hm : DiskR.sz d ≤ 1048576) :
    Calls Try.prog 23 #[.agg cs.toArray] w fun e w' => ∃ v, e = .returned (.tuple #[v, .int .i64 (readC d)]) ∧ SlOwn RecordR 27 w' (InR w.heap.size w'.heap.size) v (readL d) ∧ Below w.heap.size w w' := by
  obtain ⟨v0, v1, rfl, q0, q1⟩ := rd_Disk (_root_.id h)
  obtain ⟨A0, c0, rfl⟩ := q0.form
  obtain ⟨A1, c1, rfl⟩ := q1.form
  have hl := len_sz_Disk hm
  obtain ⟨-, r0, k0, k0'⟩ := rd_ByteS q0
  obtain ⟨-, r1, k1, k1'⟩ := rd_ByteS q1
  have hR := Lib.hid (fun (w' : World) (hb : Below w.heap.size w w') (hz : w.heap.size ≤ w'.heap.size) => DiskR.rd_keep h hb hz)
  have HOk := Lib.hid (fun (w' : World) (h : DiskR.Rd w' w'.heap.size [.slice A0 d.Safe.length c0, .slice A1 d.Loose.length c1] d) => impl_isDisk _ d w' h hm)
  have HA := Lib.hid (fun (w' : World) (h : DiskR.Rd w' w'.heap.size [.slice A0 d.Safe.length c0, .slice A1 d.Loose.length c1] d) => impl_whole _ d w' h hm)
  have hal := all_len d
  have HSc := Lib.hid (fun (A : Option Addr) (c : Nat) (w' : World) (h : Reads w' w'.heap.size A (d.all.map byteV)) (a : d.all.length ≤ c) (b : c ≤ 9223372036854775807) => impl_scanFrames A c d.all w' h a b (by omega))
  have hRL := read_yes (d := d)
  have hRN := read_no (d := d)
  generalize readL d = RL at *
  generalize readC d = RC at *
  generalize (scanF d.all).1 = L at *
  generalize (scanF d.all).2.1 = a at *
  generalize (scanF d.all).2.2 = code at *
  have hall : (d.Safe ++ d.Loose) = d.all := rfl
  rw [hall] at HA
  generalize d.all = X at *
  have hXl : X.length ≤ 1048576 := by omega
  clear hal hall
  cases hok : d.ok
  · have HN := Lib.hid (hRN hok)
    rw [hok] at HOk
    clear hok HA HSc hRL hRN
    go_enter Try.func23, Try.ntmps23
    go_wp2_with fail
    refine (HOk.out _ (hR.out _ (by (repeat (first | (with_reducible exact Below.refl _ _) | (with_reducible assumption) | ((with_reducible refine Below.setCell ?_ ?_ _); rotate_left; focus (first | omega | (simp; done) | (simp; omega))) | ((with_reducible refine Below.alloc ?_ ?_ _); rotate_left; focus (first | omega | (simp; done) | (simp; omega))) | (with_reducible refine Below.drew ?_) | (with_reducible refine below_drewN ?_ _) | (refine Below.trans ?_ (Below.mono (by with_reducible assumption) (by (first | omega | (simp; done) | (simp; omega)))))))) (by first | omega | (simp; done) | (simp; omega)))).mono ?_
    rintro e w1 ⟨rfl, hb1⟩
    have hz1 := hb1.size; try simp at hz1
    go_wp2
    go_ret2
    exact ⟨.slice none 0 0, by rw [HN.out.2]; rfl, by rw [HN.out.1]; exact SlOwn.nil _ _ _ _, by (repeat (first | (with_reducible exact Below.refl _ _) | (with_reducible assumption) | ((with_reducible refine Below.setCell ?_ ?_ _); rotate_left; focus (first | omega | (simp; done) | (simp; omega))) | ((with_reducible refine Below.alloc ?_ ?_ _); rotate_left; focus (first | omega | (simp; done) | (simp; omega))) | (with_reducible refine Below.drew ?_) | (with_reducible refine below_drewN ?_ _) | (refine Below.trans ?_ (Below.mono (by with_reducible assumption) (by (first | omega | (simp; done) | (simp; omega)))))))⟩
  have HY := Lib.hid (hRL hok)
  rw [hok] at HOk
  clear hok hRL hRN
  go_enter Try.func23, Try.ntmps23
  go_wp2_with fail
  refine (HOk.out _ (hR.out _ (by (repeat (first | (with_reducible exact Below.refl _ _) | (with_reducible assumption) | ((with_reducible refine Below.setCell ?_ ?_ _); rotate_left; focus (first | omega | (simp; done) | (simp; omega))) | ((with_reducible refine Below.alloc ?_ ?_ _); rotate_left; focus (first | omega | (simp; done) | (simp; omega))) | (with_reducible refine Below.drew ?_) | (with_reducible refine below_drewN ?_ _) | (refine Below.trans ?_ (Below.mono (by with_reducible assumption) (by (first | omega | (simp; done) | (simp; omega)))))))) (by first | omega | (simp; done) | (simp; omega)))).mono ?_
  rintro e w1 ⟨rfl, hb1⟩
  have hz1 := hb1.size; try simp at hz1
  have BK0 : Blk w1 w.heap.size 41 #[.slice A0 d.Safe.length c0, .slice A1 d.Loose.length c1] := by (repeat (first | (with_reducible assumption) | ((with_reducible refine Blk.new' ?_); focus (simp; done)) | (with_reducible refine Blk.alloc ?_ _) | (with_reducible refine Blk.drew ?_) | (with_reducible refine Blk.drewN ?_ _) | ((with_reducible refine Blk.far ?_ ?_ _); rotate_left; focus (first | omega | (simp; done) | (simp; omega))) | (refine Blk.keep ?_ (by with_reducible assumption)) | (refine Blk.below ?_ (by with_reducible assumption) (by (first | omega | (simp; done) | (simp; omega))))))
  have hc0 := BK0.cell; have hf0 := BK0.frozen; have hl0 := BK0.lt
  go_wp2_with fail
  refine (HA.out _ (hR.out _ (by (repeat (first | (with_reducible exact Below.refl _ _) | (with_reducible assumption) | ((with_reducible refine Below.setCell ?_ ?_ _); rotate_left; focus (first | omega | (simp; done) | (simp; omega))) | ((with_reducible refine Below.alloc ?_ ?_ _); rotate_left; focus (first | omega | (simp; done) | (simp; omega))) | (with_reducible refine Below.drew ?_) | (with_reducible refine below_drewN ?_ _) | (refine Below.trans ?_ (Below.mono (by with_reducible assumption) (by (first | omega | (simp; done) | (simp; omega)))))))) (by first | omega | (simp; done) | (simp; omega)))).mono ?_
  rintro e w2 ⟨A2, c2, rfl, ho2, hb2⟩
  have hz2 := hb2.size; try simp at hz2
  replace BK0 : Blk w2 w.heap.size 41 #[.slice A0 d.Safe.length c0, .slice A1 d.Loose.length c1] := by (repeat (first | (with_reducible assumption) | ((with_reducible refine Blk.new' ?_); focus (simp; done)) | (with_reducible refine Blk.alloc ?_ _) | (with_reducible refine Blk.drew ?_) | (with_reducible refine Blk.drewN ?_ _) | ((with_reducible refine Blk.far ?_ ?_ _); rotate_left; focus (first | omega | (simp; done) | (simp; omega))) | (refine Blk.keep ?_ (by with_reducible assumption)) | (refine Blk.below ?_ (by with_reducible assumption) (by (first | omega | (simp; done) | (simp; omega))))))
  replace hc0 := BK0.cell; replace hf0 := BK0.frozen; replace hl0 := BK0.lt
  have hcap := own_cap ho2
  have hcap2 := own_max ho2
  go_wp2_with fail
  refine (HSc.out _ _ _ (Reads.of_own ho2) hcap hcap2).mono ?_
  rintro e w3 ⟨v, rfl, ho3, hb3⟩
  have hz3 := hb3.size; try simp at hz3
  replace BK0 : Blk w3 w.heap.size 41 #[.slice A0 d.Safe.length c0, .slice A1 d.Loose.length c1] := by (repeat (first | (with_reducible assumption) | ((with_reducible refine Blk.new' ?_); focus (simp; done)) | (with_reducible refine Blk.alloc ?_ _) | (with_reducible refine Blk.drew ?_) | (with_reducible refine Blk.drewN ?_ _) | ((with_reducible refine Blk.far ?_ ?_ _); rotate_left; focus (first | omega | (simp; done) | (simp; omega))) | (refine Blk.keep ?_ (by with_reducible assumption)) | (refine Blk.below ?_ (by with_reducible assumption) (by (first | omega | (simp; done) | (simp; omega))))))
  replace hc0 := BK0.cell; replace hf0 := BK0.frozen; replace hl0 := BK0.lt
  obtain ⟨D, dd, rfl⟩ := SlOwn.form (_root_.id ho3)
  go_wp2
  go_ret2
  exact ⟨.slice D L.length dd, by rw [HY.out.2]; rfl, by rw [HY.out.1]; exact SlOwn.wide (SlOwn.off ho3 (by (repeat (first | (with_reducible exact Out.refl _ _) | (with_reducible assumption) | ((with_reducible refine Out.setCell ?_ ?_ _); rotate_left; focus (first | (refine Or.inl ?_; (first | omega | (simp; done) | (simp; omega))) | (refine Or.inr ?_; (first | omega | (simp; done) | (simp; omega))))) | (with_reducible refine Out.alloc ?_ _) | (with_reducible refine Out.drew ?_) | (with_reducible refine Out.drewN ?_ _) | (refine Out.step ?_ (by with_reducible assumption)))))) (inR_mono (by first | omega | (simp; done) | (simp; omega)) (by first | omega | (simp; done) | (simp; omega))), by (repeat (first | (with_reducible exact Below.refl _ _) | (with_reducible assumption) | ((with_reducible refine Below.setCell ?_ ?_ _); rotate_left; focus (first | omega | (simp; done) | (simp; omega))) | ((with_reducible refine Below.alloc ?_ ?_ _); rotate_left; focus (first | omega | (simp; done) | (simp; omega))) | (with_reducible refine Below.drew ?_) | (with_reducible refine below_drewN ?_ _) | (refine Below.trans ?_ (Below.mono (by with_reducible assumption) (by (first | omega | (simp; done) | (simp; omega)))))))⟩
end Go.Proofs.Ytndgaakfndokgaa
namespace Go.Proofs.Ytndgaakfndokgaa
open Go.RowKit
set_option maxHeartbeats 3200000 in
theorem impl_LooseRecordsL (cs : List Value) (d : Disk) (w : World) (h : DiskR.Rd w w.heap.size cs d) (hm : DiskR.sz d ≤ 1048576) :
    Calls Try.prog 21 #[.agg cs.toArray] w fun e w' => e = .returned (.int .i64 (looseN d)) ∧ Below w.heap.size w w' := by
  obtain ⟨v0, v1, rfl, q0, q1⟩ := rd_Disk (_root_.id h)
  obtain ⟨A0, c0, rfl⟩ := q0.form
  obtain ⟨A1, c1, rfl⟩ := q1.form
  have hl := len_sz_Disk hm
  obtain ⟨-, r0, k0, k0'⟩ := rd_ByteS q0
  obtain ⟨-, r1, k1, k1'⟩ := rd_ByteS q1
  have hR := Lib.hid (fun (w' : World) (hb : Below w.heap.size w w') (hz : w.heap.size ≤ w'.heap.size) => DiskR.rd_keep h hb hz)
  have HOk := Lib.hid (fun (w' : World) (h : DiskR.Rd w' w'.heap.size [.slice A0 d.Safe.length c0, .slice A1 d.Loose.length c1] d) => impl_isDisk _ d w' h hm)
  have HA := Lib.hid (fun (w' : World) (h : DiskR.Rd w' w'.heap.size [.slice A0 d.Safe.length c0, .slice A1 d.Loose.length c1] d) => impl_whole _ d w' h hm)
  have hal := all_len d
  have HSc := Lib.hid (fun (A : Option Addr) (c : Nat) (w' : World) (h : Reads w' w'.heap.size A (d.all.map byteV)) (a : d.all.length ≤ c) (b : c ≤ 9223372036854775807) => impl_scanFrames A c d.all w' h a b (by omega))
  have HSs := Lib.hid (fun (A : Option Addr) (c : Nat) (w' : World) (h : Reads w' w'.heap.size A (d.Safe.map byteV)) (a : d.Safe.length ≤ c) (b : c ≤ 9223372036854775807) => impl_scanFrames A c d.Safe w' h a b (by omega))
  have hLL := Nat.le_trans (len_le_sz RecordR _) (scanF_sz d.all)
  have hLS := Nat.le_trans (len_le_sz RecordR _) (scanF_sz d.Safe)
  have hRL := loose_yes (d := d)
  have hRN := loose_no (d := d)
  generalize looseN d = RL at *
  generalize (scanF d.all).1 = L at *
  generalize (scanF d.all).2.1 = a at *
  generalize (scanF d.all).2.2 = code at *
  generalize (scanF d.Safe).1 = L2 at *
  generalize (scanF d.Safe).2.1 = a2 at *
  generalize (scanF d.Safe).2.2 = code2 at *
  have hall : (d.Safe ++ d.Loose) = d.all := rfl
  rw [hall] at HA
  generalize d.all = X at *
  have hXl : X.length ≤ 1048576 := by omega
  clear hal hall
  cases hok : d.ok
  · have HN := Lib.hid (hRN hok)
    rw [hok] at HOk
    clear hok HA HSc HSs hRL hRN
    go_enter Try.func21, Try.ntmps21
    go_wp2_with fail
    refine (HOk.out _ (hR.out _ (by (repeat (first | (with_reducible exact Below.refl _ _) | (with_reducible assumption) | ((with_reducible refine Below.setCell ?_ ?_ _); rotate_left; focus (first | omega | (simp; done) | (simp; omega))) | ((with_reducible refine Below.alloc ?_ ?_ _); rotate_left; focus (first | omega | (simp; done) | (simp; omega))) | (with_reducible refine Below.drew ?_) | (with_reducible refine below_drewN ?_ _) | (refine Below.trans ?_ (Below.mono (by with_reducible assumption) (by (first | omega | (simp; done) | (simp; omega)))))))) (by first | omega | (simp; done) | (simp; omega)))).mono ?_
    rintro e w1 ⟨rfl, hb1⟩
    have hz1 := hb1.size; try simp at hz1
    go_wp2
    go_ret
    exact ⟨by rw [HN.out]; rfl, by (repeat (first | (with_reducible exact Below.refl _ _) | (with_reducible assumption) | ((with_reducible refine Below.setCell ?_ ?_ _); rotate_left; focus (first | omega | (simp; done) | (simp; omega))) | ((with_reducible refine Below.alloc ?_ ?_ _); rotate_left; focus (first | omega | (simp; done) | (simp; omega))) | (with_reducible refine Below.drew ?_) | (with_reducible refine below_drewN ?_ _) | (refine Below.trans ?_ (Below.mono (by with_reducible assumption) (by (first | omega | (simp; done) | (simp; omega)))))))⟩
  have HY := Lib.hid (hRL hok)
  rw [hok] at HOk
  clear hok hRL hRN
  go_enter Try.func21, Try.ntmps21
  go_wp2_with fail
  refine (HOk.out _ (hR.out _ (by (repeat (first | (with_reducible exact Below.refl _ _) | (with_reducible assumption) | ((with_reducible refine Below.setCell ?_ ?_ _); rotate_left; focus (first | omega | (simp; done) | (simp; omega))) | ((with_reducible refine Below.alloc ?_ ?_ _); rotate_left; focus (first | omega | (simp; done) | (simp; omega))) | (with_reducible refine Below.drew ?_) | (with_reducible refine below_drewN ?_ _) | (refine Below.trans ?_ (Below.mono (by with_reducible assumption) (by (first | omega | (simp; done) | (simp; omega)))))))) (by first | omega | (simp; done) | (simp; omega)))).mono ?_
  rintro e w1 ⟨rfl, hb1⟩
  have hz1 := hb1.size; try simp at hz1
  have BK0 : Blk w1 w.heap.size 41 #[.slice A0 d.Safe.length c0, .slice A1 d.Loose.length c1] := by (repeat (first | (with_reducible assumption) | ((with_reducible refine Blk.new' ?_); focus (simp; done)) | (with_reducible refine Blk.alloc ?_ _) | (with_reducible refine Blk.drew ?_) | (with_reducible refine Blk.drewN ?_ _) | ((with_reducible refine Blk.far ?_ ?_ _); rotate_left; focus (first | omega | (simp; done) | (simp; omega))) | (refine Blk.keep ?_ (by with_reducible assumption)) | (refine Blk.below ?_ (by with_reducible assumption) (by (first | omega | (simp; done) | (simp; omega))))))
  have hc0 := BK0.cell; have hf0 := BK0.frozen; have hl0 := BK0.lt
  go_wp2_with fail
  refine (HA.out _ (hR.out _ (by (repeat (first | (with_reducible exact Below.refl _ _) | (with_reducible assumption) | ((with_reducible refine Below.setCell ?_ ?_ _); rotate_left; focus (first | omega | (simp; done) | (simp; omega))) | ((with_reducible refine Below.alloc ?_ ?_ _); rotate_left; focus (first | omega | (simp; done) | (simp; omega))) | (with_reducible refine Below.drew ?_) | (with_reducible refine below_drewN ?_ _) | (refine Below.trans ?_ (Below.mono (by with_reducible assumption) (by (first | omega | (simp; done) | (simp; omega)))))))) (by first | omega | (simp; done) | (simp; omega)))).mono ?_
  rintro e w2 ⟨A2, c2, rfl, ho2, hb2⟩
  have hz2 := hb2.size; try simp at hz2
  replace BK0 : Blk w2 w.heap.size 41 #[.slice A0 d.Safe.length c0, .slice A1 d.Loose.length c1] := by (repeat (first | (with_reducible assumption) | ((with_reducible refine Blk.new' ?_); focus (simp; done)) | (with_reducible refine Blk.alloc ?_ _) | (with_reducible refine Blk.drew ?_) | (with_reducible refine Blk.drewN ?_ _) | ((with_reducible refine Blk.far ?_ ?_ _); rotate_left; focus (first | omega | (simp; done) | (simp; omega))) | (refine Blk.keep ?_ (by with_reducible assumption)) | (refine Blk.below ?_ (by with_reducible assumption) (by (first | omega | (simp; done) | (simp; omega))))))
  replace hc0 := BK0.cell; replace hf0 := BK0.frozen; replace hl0 := BK0.lt
  have hcap := own_cap ho2
  have hcap2 := own_max ho2
  go_wp2_with fail
  refine (HSc.out _ _ _ (Reads.of_own ho2) hcap hcap2).mono ?_
  rintro e w3 ⟨v, rfl, ho3, hb3⟩
  have hz3 := hb3.size; try simp at hz3
  replace BK0 : Blk w3 w.heap.size 41 #[.slice A0 d.Safe.length c0, .slice A1 d.Loose.length c1] := by (repeat (first | (with_reducible assumption) | ((with_reducible refine Blk.new' ?_); focus (simp; done)) | (with_reducible refine Blk.alloc ?_ _) | (with_reducible refine Blk.drew ?_) | (with_reducible refine Blk.drewN ?_ _) | ((with_reducible refine Blk.far ?_ ?_ _); rotate_left; focus (first | omega | (simp; done) | (simp; omega))) | (refine Blk.keep ?_ (by with_reducible assumption)) | (refine Blk.below ?_ (by with_reducible assumption) (by (first | omega | (simp; done) | (simp; omega))))))
  replace hc0 := BK0.cell; replace hf0 := BK0.frozen; replace hl0 := BK0.lt
  obtain ⟨D, dd, rfl⟩ := SlOwn.form (_root_.id ho3)
  clear ho2 ho3 hcap hcap2
  go_wp2_with fail
  refine (HSs.out _ _ _ (r0.keep (by (repeat (first | (with_reducible exact Below.refl _ _) | (with_reducible assumption) | ((with_reducible refine Below.setCell ?_ ?_ _); rotate_left; focus (first | omega | (simp; done) | (simp; omega))) | ((with_reducible refine Below.alloc ?_ ?_ _); rotate_left; focus (first | omega | (simp; done) | (simp; omega))) | (with_reducible refine Below.drew ?_) | (with_reducible refine below_drewN ?_ _) | (refine Below.trans ?_ (Below.mono (by with_reducible assumption) (by (first | omega | (simp; done) | (simp; omega)))))))) (by first | omega | (simp; done) | (simp; omega))) k0 k0').mono ?_
  rintro e w4 ⟨v, rfl, ho4, hb4⟩
  have hz4 := hb4.size; try simp at hz4
  replace BK0 : Blk w4 w.heap.size 41 #[.slice A0 d.Safe.length c0, .slice A1 d.Loose.length c1] := by (repeat (first | (with_reducible assumption) | ((with_reducible refine Blk.new' ?_); focus (simp; done)) | (with_reducible refine Blk.alloc ?_ _) | (with_reducible refine Blk.drew ?_) | (with_reducible refine Blk.drewN ?_ _) | ((with_reducible refine Blk.far ?_ ?_ _); rotate_left; focus (first | omega | (simp; done) | (simp; omega))) | (refine Blk.keep ?_ (by with_reducible assumption)) | (refine Blk.below ?_ (by with_reducible assumption) (by (first | omega | (simp; done) | (simp; omega))))))
  replace hc0 := BK0.cell; replace hf0 := BK0.frozen; replace hl0 := BK0.lt
  obtain ⟨D2, dd2, rfl⟩ := SlOwn.form (_root_.id ho4)
  go_wp2
  go_ret
  exact ⟨by rw [HY.out]; rfl, by (repeat (first | (with_reducible exact Below.refl _ _) | (with_reducible assumption) | ((with_reducible refine Below.setCell ?_ ?_ _); rotate_left; focus (first | omega | (simp; done) | (simp; omega))) | ((with_reducible refine Below.alloc ?_ ?_ _); rotate_left; focus (first | omega | (simp; done) | (simp; omega))) | (with_reducible refine Below.drew ?_) | (with_reducible refine below_drewN ?_ _) | (refine Below.trans ?_ (Below.mono (by with_reducible assumption) (by (first | omega | (simp; done) | (simp; omega)))))))⟩
end Go.Proofs.Ytndgaakfndokgaa
namespace Go.Proofs.Ytndgaakfndokgaa
open Go.RowKit
set_option maxHeartbeats 3200000 in
theorem impl_RepairLogL (cs : List Value) (d : Disk) (w : World) (h : DiskR.Rd w w.heap.size cs d) (hm : DiskR.sz d ≤ 1048576) :
    Calls Try.prog 25 #[.agg cs.toArray] w fun e w' => ∃ cs', e = .returned (.tuple #[.agg cs'.toArray, .bool (repB d)]) ∧ DiskR.Own w' (InR w.heap.size w'.heap.size) cs' (repD d) ∧ Below w.heap.size w w' := by
  obtain ⟨v0, v1, rfl, q0, q1⟩ := rd_Disk (_root_.id h)
  obtain ⟨A0, c0, rfl⟩ := q0.form
  obtain ⟨A1, c1, rfl⟩ := q1.form
  have hl := len_sz_Disk hm
  obtain ⟨-, r0, k0, k0'⟩ := rd_ByteS q0
  obtain ⟨-, r1, k1, k1'⟩ := rd_ByteS q1
  have hR := Lib.hid (fun (w' : World) (hb : Below w.heap.size w w') (hz : w.heap.size ≤ w'.heap.size) => DiskR.rd_keep h hb hz)
  have HOk := Lib.hid (fun (w' : World) (h : DiskR.Rd w' w'.heap.size [.slice A0 d.Safe.length c0, .slice A1 d.Loose.length c1] d) => impl_isDisk _ d w' h hm)
  have HCp := Lib.hid (fun (w' : World) (h : DiskR.Rd w' w'.heap.size [.slice A0 d.Safe.length c0, .slice A1 d.Loose.length c1] d) => impl_cloneDisk _ d w' h hm)
  have HA := Lib.hid (fun (w' : World) (h : DiskR.Rd w' w'.heap.size [.slice A0 d.Safe.length c0, .slice A1 d.Loose.length c1] d) => impl_whole _ d w' h hm)
  have hal := all_len d
  have HSc := Lib.hid (fun (A : Option Addr) (c : Nat) (w' : World) (h : Reads w' w'.heap.size A (d.all.map byteV)) (a : d.all.length ≤ c) (b : c ≤ 9223372036854775807) => impl_scanFrames A c d.all w' h a b (by omega))
  have hat := scanF_at d.all
  have hRY := repD_yes (d := d)
  have hRN := repD_no (d := d)
  have hRB : repB d = (d.ok && !((scanF d.all).2.2 == 2)) := rfl
  generalize repD d = RD at *
  generalize repB d = RB at *
  generalize (scanF d.all).1 = L at *
  generalize (scanF d.all).2.1 = a at *
  generalize (scanF d.all).2.2 = code at *
  have hall : (d.Safe ++ d.Loose) = d.all := rfl
  rw [hall] at HA
  generalize d.all = X at *
  have hXl : X.length ≤ 1048576 := by omega
  clear hal hall
  cases hok : d.ok
  · have HN : Hid (RB = false ∧ RD = d) := Lib.hid (have h1 : RB = false := (by rw [hRB, hok]; rfl); ⟨h1, hRN h1⟩)
    rw [hok] at HOk
    clear hok HA HSc hRY hRN hRB
    go_enter Try.func25, Try.ntmps25
    go_wp2_with fail
    refine (HOk.out _ (hR.out _ (by (repeat (first | (with_reducible exact Below.refl _ _) | (with_reducible assumption) | ((with_reducible refine Below.setCell ?_ ?_ _); rotate_left; focus (first | omega | (simp; done) | (simp; omega))) | ((with_reducible refine Below.alloc ?_ ?_ _); rotate_left; focus (first | omega | (simp; done) | (simp; omega))) | (with_reducible refine Below.drew ?_) | (with_reducible refine below_drewN ?_ _) | (refine Below.trans ?_ (Below.mono (by with_reducible assumption) (by (first | omega | (simp; done) | (simp; omega)))))))) (by first | omega | (simp; done) | (simp; omega)))).mono ?_
    rintro e w1 ⟨rfl, hb1⟩
    have hz1 := hb1.size; try simp at hz1
    have BK0 : Blk w1 w.heap.size 41 #[.slice A0 d.Safe.length c0, .slice A1 d.Loose.length c1] := by (repeat (first | (with_reducible assumption) | ((with_reducible refine Blk.new' ?_); focus (simp; done)) | (with_reducible refine Blk.alloc ?_ _) | (with_reducible refine Blk.drew ?_) | (with_reducible refine Blk.drewN ?_ _) | ((with_reducible refine Blk.far ?_ ?_ _); rotate_left; focus (first | omega | (simp; done) | (simp; omega))) | (refine Blk.keep ?_ (by with_reducible assumption)) | (refine Blk.below ?_ (by with_reducible assumption) (by (first | omega | (simp; done) | (simp; omega))))))
    have hc0 := BK0.cell; have hf0 := BK0.frozen; have hl0 := BK0.lt
    have BK1 : Blk w1 (w.heap.size + 1) 41 #[.slice none 0 0, .slice none 0 0] := by (repeat (first | (with_reducible assumption) | ((with_reducible refine Blk.new' ?_); focus (simp; done)) | (with_reducible refine Blk.alloc ?_ _) | (with_reducible refine Blk.drew ?_) | (with_reducible refine Blk.drewN ?_ _) | ((with_reducible refine Blk.far ?_ ?_ _); rotate_left; focus (first | omega | (simp; done) | (simp; omega))) | (refine Blk.keep ?_ (by with_reducible assumption)) | (refine Blk.below ?_ (by with_reducible assumption) (by (first | omega | (simp; done) | (simp; omega))))))
    have hc1 := BK1.cell; have hf1 := BK1.frozen; have hl1 := BK1.lt
    go_wp2_with fail
    refine (HCp.out _ (hR.out _ (by (repeat (first | (with_reducible exact Below.refl _ _) | (with_reducible assumption) | ((with_reducible refine Below.setCell ?_ ?_ _); rotate_left; focus (first | omega | (simp; done) | (simp; omega))) | ((with_reducible refine Below.alloc ?_ ?_ _); rotate_left; focus (first | omega | (simp; done) | (simp; omega))) | (with_reducible refine Below.drew ?_) | (with_reducible refine below_drewN ?_ _) | (refine Below.trans ?_ (Below.mono (by with_reducible assumption) (by (first | omega | (simp; done) | (simp; omega)))))))) (by first | omega | (simp; done) | (simp; omega)))).mono ?_
    rintro e w2 ⟨cs2, rfl, ho2, hb2⟩
    have hz2 := hb2.size; try simp at hz2
    replace BK0 : Blk w2 w.heap.size 41 #[.slice A0 d.Safe.length c0, .slice A1 d.Loose.length c1] := by (repeat (first | (with_reducible assumption) | ((with_reducible refine Blk.new' ?_); focus (simp; done)) | (with_reducible refine Blk.alloc ?_ _) | (with_reducible refine Blk.drew ?_) | (with_reducible refine Blk.drewN ?_ _) | ((with_reducible refine Blk.far ?_ ?_ _); rotate_left; focus (first | omega | (simp; done) | (simp; omega))) | (refine Blk.keep ?_ (by with_reducible assumption)) | (refine Blk.below ?_ (by with_reducible assumption) (by (first | omega | (simp; done) | (simp; omega))))))
    replace hc0 := BK0.cell; replace hf0 := BK0.frozen; replace hl0 := BK0.lt
    replace BK1 : Blk w2 (w.heap.size + 1) 41 #[.slice none 0 0, .slice none 0 0] := by (repeat (first | (with_reducible assumption) | ((with_reducible refine Blk.new' ?_); focus (simp; done)) | (with_reducible refine Blk.alloc ?_ _) | (with_reducible refine Blk.drew ?_) | (with_reducible refine Blk.drewN ?_ _) | ((with_reducible refine Blk.far ?_ ?_ _); rotate_left; focus (first | omega | (simp; done) | (simp; omega))) | (refine Blk.keep ?_ (by with_reducible assumption)) | (refine Blk.below ?_ (by with_reducible assumption) (by (first | omega | (simp; done) | (simp; omega))))))
    replace hc1 := BK1.cell; replace hf1 := BK1.frozen; replace hl1 := BK1.lt
    obtain ⟨_, _, _, _, rfl, p0, p1, -⟩ := own_Disk (_root_.id ho2)
    obtain ⟨D0, d0, rfl⟩ := p0.form
    obtain ⟨D1, d1, rfl⟩ := p1.form
    go_wp2
    refine bodyPost_ret (v := .tuple #[.agg #[.slice D0 d.Safe.length d0, .slice D1 d.Loose.length d1], .bool false]) (by simp [results, Try.results25, go_sem, hc1, hf1]) rfl ⟨[.slice D0 d.Safe.length d0, .slice D1 d.Loose.length d1], by rw [HN.out.1], ?_, by (repeat (first | (with_reducible exact Below.refl _ _) | (with_reducible assumption) | ((with_reducible refine Below.setCell ?_ ?_ _); rotate_left; focus (first | omega | (simp; done) | (simp; omega))) | ((with_reducible refine Below.alloc ?_ ?_ _); rotate_left; focus (first | omega | (simp; done) | (simp; omega))) | (with_reducible refine Below.drew ?_) | (with_reducible refine below_drewN ?_ _) | (refine Below.trans ?_ (Below.mono (by with_reducible assumption) (by (first | omega | (simp; done) | (simp; omega)))))))⟩
    rw [HN.out.2]
    exact DiskR.own_wide (DiskR.own_off ho2 (by (repeat (first | (with_reducible exact Out.refl _ _) | (with_reducible assumption) | ((with_reducible refine Out.setCell ?_ ?_ _); rotate_left; focus (first | (refine Or.inl ?_; (first | omega | (simp; done) | (simp; omega))) | (refine Or.inr ?_; (first | omega | (simp; done) | (simp; omega))))) | (with_reducible refine Out.alloc ?_ _) | (with_reducible refine Out.drew ?_) | (with_reducible refine Out.drewN ?_ _) | (refine Out.step ?_ (by with_reducible assumption)))))) (inR_mono (by first | omega | (simp; done) | (simp; omega)) (by first | omega | (simp; done) | (simp; omega)))
  rw [hok] at HOk
  go_enter Try.func25, Try.ntmps25
  go_wp2_with fail
  refine (HOk.out _ (hR.out _ (by (repeat (first | (with_reducible exact Below.refl _ _) | (with_reducible assumption) | ((with_reducible refine Below.setCell ?_ ?_ _); rotate_left; focus (first | omega | (simp; done) | (simp; omega))) | ((with_reducible refine Below.alloc ?_ ?_ _); rotate_left; focus (first | omega | (simp; done) | (simp; omega))) | (with_reducible refine Below.drew ?_) | (with_reducible refine below_drewN ?_ _) | (refine Below.trans ?_ (Below.mono (by with_reducible assumption) (by (first | omega | (simp; done) | (simp; omega)))))))) (by first | omega | (simp; done) | (simp; omega)))).mono ?_
  rintro e w1 ⟨rfl, hb1⟩
  have hz1 := hb1.size; try simp at hz1
  have BK0 : Blk w1 w.heap.size 41 #[.slice A0 d.Safe.length c0, .slice A1 d.Loose.length c1] := by (repeat (first | (with_reducible assumption) | ((with_reducible refine Blk.new' ?_); focus (simp; done)) | (with_reducible refine Blk.alloc ?_ _) | (with_reducible refine Blk.drew ?_) | (with_reducible refine Blk.drewN ?_ _) | ((with_reducible refine Blk.far ?_ ?_ _); rotate_left; focus (first | omega | (simp; done) | (simp; omega))) | (refine Blk.keep ?_ (by with_reducible assumption)) | (refine Blk.below ?_ (by with_reducible assumption) (by (first | omega | (simp; done) | (simp; omega))))))
  have hc0 := BK0.cell; have hf0 := BK0.frozen; have hl0 := BK0.lt
  have BK1 : Blk w1 (w.heap.size + 1) 41 #[.slice none 0 0, .slice none 0 0] := by (repeat (first | (with_reducible assumption) | ((with_reducible refine Blk.new' ?_); focus (simp; done)) | (with_reducible refine Blk.alloc ?_ _) | (with_reducible refine Blk.drew ?_) | (with_reducible refine Blk.drewN ?_ _) | ((with_reducible refine Blk.far ?_ ?_ _); rotate_left; focus (first | omega | (simp; done) | (simp; omega))) | (refine Blk.keep ?_ (by with_reducible assumption)) | (refine Blk.below ?_ (by with_reducible assumption) (by (first | omega | (simp; done) | (simp; omega))))))
  have hc1 := BK1.cell; have hf1 := BK1.frozen; have hl1 := BK1.lt
  go_wp2_with fail
  refine (HA.out _ (hR.out _ (by (repeat (first | (with_reducible exact Below.refl _ _) | (with_reducible assumption) | ((with_reducible refine Below.setCell ?_ ?_ _); rotate_left; focus (first | omega | (simp; done) | (simp; omega))) | ((with_reducible refine Below.alloc ?_ ?_ _); rotate_left; focus (first | omega | (simp; done) | (simp; omega))) | (with_reducible refine Below.drew ?_) | (with_reducible refine below_drewN ?_ _) | (refine Below.trans ?_ (Below.mono (by with_reducible assumption) (by (first | omega | (simp; done) | (simp; omega)))))))) (by first | omega | (simp; done) | (simp; omega)))).mono ?_
  rintro e w2 ⟨A2, c2, rfl, ho2, hb2⟩
  have hz2 := hb2.size; try simp at hz2
  replace BK0 : Blk w2 w.heap.size 41 #[.slice A0 d.Safe.length c0, .slice A1 d.Loose.length c1] := by (repeat (first | (with_reducible assumption) | ((with_reducible refine Blk.new' ?_); focus (simp; done)) | (with_reducible refine Blk.alloc ?_ _) | (with_reducible refine Blk.drew ?_) | (with_reducible refine Blk.drewN ?_ _) | ((with_reducible refine Blk.far ?_ ?_ _); rotate_left; focus (first | omega | (simp; done) | (simp; omega))) | (refine Blk.keep ?_ (by with_reducible assumption)) | (refine Blk.below ?_ (by with_reducible assumption) (by (first | omega | (simp; done) | (simp; omega))))))
  replace hc0 := BK0.cell; replace hf0 := BK0.frozen; replace hl0 := BK0.lt
  replace BK1 : Blk w2 (w.heap.size + 1) 41 #[.slice none 0 0, .slice none 0 0] := by (repeat (first | (with_reducible assumption) | ((with_reducible refine Blk.new' ?_); focus (simp; done)) | (with_reducible refine Blk.alloc ?_ _) | (with_reducible refine Blk.drew ?_) | (with_reducible refine Blk.drewN ?_ _) | ((with_reducible refine Blk.far ?_ ?_ _); rotate_left; focus (first | omega | (simp; done) | (simp; omega))) | (refine Blk.keep ?_ (by with_reducible assumption)) | (refine Blk.below ?_ (by with_reducible assumption) (by (first | omega | (simp; done) | (simp; omega))))))
  replace hc1 := BK1.cell; replace hf1 := BK1.frozen; replace hl1 := BK1.lt
  have hcap := own_cap ho2
  have hcap2 := own_max ho2
  go_wp2_with fail
  refine (HSc.out _ _ _ (Reads.of_own ho2) hcap hcap2).mono ?_
  rintro e w3 ⟨v, rfl, ho3, hb3⟩
  have hz3 := hb3.size; try simp at hz3
  replace BK0 : Blk w3 w.heap.size 41 #[.slice A0 d.Safe.length c0, .slice A1 d.Loose.length c1] := by (repeat (first | (with_reducible assumption) | ((with_reducible refine Blk.new' ?_); focus (simp; done)) | (with_reducible refine Blk.alloc ?_ _) | (with_reducible refine Blk.drew ?_) | (with_reducible refine Blk.drewN ?_ _) | ((with_reducible refine Blk.far ?_ ?_ _); rotate_left; focus (first | omega | (simp; done) | (simp; omega))) | (refine Blk.keep ?_ (by with_reducible assumption)) | (refine Blk.below ?_ (by with_reducible assumption) (by (first | omega | (simp; done) | (simp; omega))))))
  replace hc0 := BK0.cell; replace hf0 := BK0.frozen; replace hl0 := BK0.lt
  replace BK1 : Blk w3 (w.heap.size + 1) 41 #[.slice none 0 0, .slice none 0 0] := by (repeat (first | (with_reducible assumption) | ((with_reducible refine Blk.new' ?_); focus (simp; done)) | (with_reducible refine Blk.alloc ?_ _) | (with_reducible refine Blk.drew ?_) | (with_reducible refine Blk.drewN ?_ _) | ((with_reducible refine Blk.far ?_ ?_ _); rotate_left; focus (first | omega | (simp; done) | (simp; omega))) | (refine Blk.keep ?_ (by with_reducible assumption)) | (refine Blk.below ?_ (by with_reducible assumption) (by (first | omega | (simp; done) | (simp; omega))))))
  replace hc1 := BK1.cell; replace hf1 := BK1.frozen; replace hl1 := BK1.lt
  obtain ⟨D, dd, rfl⟩ := SlOwn.form (_root_.id ho3)
  clear ho3
  have hrA : Reads w3 w3.heap.size A2 (X.map byteV) := (Reads.of_own ho2).keep hb3 (by omega)
  cases hcd : code == 2
  · have HY : Hid (RB = true ∧ RD = ⟨X.take a, []⟩) := Lib.hid (have h1 : RB = true := (by rw [hRB, hok, hcd]; rfl); ⟨h1, hRY h1⟩)
    have hcd2 : decide (code = 2) = false := by simpa using hcd
    have HTl : Hid ((X.take a).length = a) := Lib.hid (by rw [List.length_take]; omega)
    clear hok hRY hRN hRB ho2 hrA
    go_wp2_with fail
    refine (HA.out _ (hR.out _ (by (repeat (first | (with_reducible exact Below.refl _ _) | (with_reducible assumption) | ((with_reducible refine Below.setCell ?_ ?_ _); rotate_left; focus (first | omega | (simp; done) | (simp; omega))) | ((with_reducible refine Below.alloc ?_ ?_ _); rotate_left; focus (first | omega | (simp; done) | (simp; omega))) | (with_reducible refine Below.drew ?_) | (with_reducible refine below_drewN ?_ _) | (refine Below.trans ?_ (Below.mono (by with_reducible assumption) (by (first | omega | (simp; done) | (simp; omega)))))))) (by first | omega | (simp; done) | (simp; omega)))).mono ?_
    rintro e w4 ⟨A4, c4, rfl, ho4, hb4⟩
    have hz4 := hb4.size; try simp at hz4
    replace BK0 : Blk w4 w.heap.size 41 #[.slice A0 d.Safe.length c0, .slice A1 d.Loose.length c1] := by (repeat (first | (with_reducible assumption) | ((with_reducible refine Blk.new' ?_); focus (simp; done)) | (with_reducible refine Blk.alloc ?_ _) | (with_reducible refine Blk.drew ?_) | (with_reducible refine Blk.drewN ?_ _) | ((with_reducible refine Blk.far ?_ ?_ _); rotate_left; focus (first | omega | (simp; done) | (simp; omega))) | (refine Blk.keep ?_ (by with_reducible assumption)) | (refine Blk.below ?_ (by with_reducible assumption) (by (first | omega | (simp; done) | (simp; omega))))))
    replace hc0 := BK0.cell; replace hf0 := BK0.frozen; replace hl0 := BK0.lt
    replace BK1 : Blk w4 (w.heap.size + 1) 41 #[.slice none 0 0, .slice none 0 0] := by (repeat (first | (with_reducible assumption) | ((with_reducible refine Blk.new' ?_); focus (simp; done)) | (with_reducible refine Blk.alloc ?_ _) | (with_reducible refine Blk.drew ?_) | (with_reducible refine Blk.drewN ?_ _) | ((with_reducible refine Blk.far ?_ ?_ _); rotate_left; focus (first | omega | (simp; done) | (simp; omega))) | (refine Blk.keep ?_ (by with_reducible assumption)) | (refine Blk.below ?_ (by with_reducible assumption) (by (first | omega | (simp; done) | (simp; omega))))))
    replace hc1 := BK1.cell; replace hf1 := BK1.frozen; replace hl1 := BK1.lt
    have hcap4 := own_cap ho4
    have hS := of_own_in_ByteS (Eq.mpr (by rw [HTl.out, List.map_take]) (own_take ho4 hat) : w4.ownsRow w3.heap.size 5 1 (.slice A4 (X.take a).length c4) (X.take a).length ((X.take a).map byteV))
    have hN4 := SlOwn.nil byteR 5 w4 (fun _ => False)
    rw [HTl.out] at hS
    have HO := Lib.hid (of_own_Disk (x := ⟨X.take a, []⟩) hS hN4 (fun _ h => h) (fun _ h => h.elim) (fun _ _ h => h))
    have hac : a ≤ c4 := by omega
    go_wp2
    refine bodyPost_ret (v := .tuple #[.agg #[.slice A4 a c4, .slice none 0 0], .bool true]) (by simp [results, Try.results25, go_sem, hc1, hf1]) rfl ⟨[.slice A4 a c4, .slice none 0 0], by rw [HY.out.1], ?_, by (repeat (first | (with_reducible exact Below.refl _ _) | (with_reducible assumption) | ((with_reducible refine Below.setCell ?_ ?_ _); rotate_left; focus (first | omega | (simp; done) | (simp; omega))) | ((with_reducible refine Below.alloc ?_ ?_ _); rotate_left; focus (first | omega | (simp; done) | (simp; omega))) | (with_reducible refine Below.drew ?_) | (with_reducible refine below_drewN ?_ _) | (refine Below.trans ?_ (Below.mono (by with_reducible assumption) (by (first | omega | (simp; done) | (simp; omega)))))))⟩
    rw [HY.out.2]
    exact DiskR.own_wide (DiskR.own_off HO.out (by (repeat (first | (with_reducible exact Out.refl _ _) | (with_reducible assumption) | ((with_reducible refine Out.setCell ?_ ?_ _); rotate_left; focus (first | (refine Or.inl ?_; (first | omega | (simp; done) | (simp; omega))) | (refine Or.inr ?_; (first | omega | (simp; done) | (simp; omega))))) | (with_reducible refine Out.alloc ?_ _) | (with_reducible refine Out.drew ?_) | (with_reducible refine Out.drewN ?_ _) | (refine Out.step ?_ (by with_reducible assumption)))))) (inR_mono (by first | omega | (simp; done) | (simp; omega)) (by first | omega | (simp; done) | (simp; omega)))
  have HN : Hid (RB = false ∧ RD = d) := Lib.hid (have h1 : RB = false := (by rw [hRB, hok, hcd]; rfl); ⟨h1, hRN h1⟩)
  obtain rfl : code = 2 := by simpa using hcd
  clear hok hcd hRY hRN hRB
  go_wp2_with fail
  refine (HCp.out _ (hR.out _ (by (repeat (first | (with_reducible exact Below.refl _ _) | (with_reducible assumption) | ((with_reducible refine Below.setCell ?_ ?_ _); rotate_left; focus (first | omega | (simp; done) | (simp; omega))) | ((with_reducible refine Below.alloc ?_ ?_ _); rotate_left; focus (first | omega | (simp; done) | (simp; omega))) | (with_reducible refine Below.drew ?_) | (with_reducible refine below_drewN ?_ _) | (refine Below.trans ?_ (Below.mono (by with_reducible assumption) (by (first | omega | (simp; done) | (simp; omega)))))))) (by first | omega | (simp; done) | (simp; omega)))).mono ?_
  rintro e w4 ⟨cs2, rfl, ho4, hb4⟩
  have hz4 := hb4.size; try simp at hz4
  replace BK0 : Blk w4 w.heap.size 41 #[.slice A0 d.Safe.length c0, .slice A1 d.Loose.length c1] := by (repeat (first | (with_reducible assumption) | ((with_reducible refine Blk.new' ?_); focus (simp; done)) | (with_reducible refine Blk.alloc ?_ _) | (with_reducible refine Blk.drew ?_) | (with_reducible refine Blk.drewN ?_ _) | ((with_reducible refine Blk.far ?_ ?_ _); rotate_left; focus (first | omega | (simp; done) | (simp; omega))) | (refine Blk.keep ?_ (by with_reducible assumption)) | (refine Blk.below ?_ (by with_reducible assumption) (by (first | omega | (simp; done) | (simp; omega))))))
  replace hc0 := BK0.cell; replace hf0 := BK0.frozen; replace hl0 := BK0.lt
  replace BK1 : Blk w4 (w.heap.size + 1) 41 #[.slice none 0 0, .slice none 0 0] := by (repeat (first | (with_reducible assumption) | ((with_reducible refine Blk.new' ?_); focus (simp; done)) | (with_reducible refine Blk.alloc ?_ _) | (with_reducible refine Blk.drew ?_) | (with_reducible refine Blk.drewN ?_ _) | ((with_reducible refine Blk.far ?_ ?_ _); rotate_left; focus (first | omega | (simp; done) | (simp; omega))) | (refine Blk.keep ?_ (by with_reducible assumption)) | (refine Blk.below ?_ (by with_reducible assumption) (by (first | omega | (simp; done) | (simp; omega))))))
  replace hc1 := BK1.cell; replace hf1 := BK1.frozen; replace hl1 := BK1.lt
  obtain ⟨_, _, _, _, rfl, p0, p1, -⟩ := own_Disk (_root_.id ho4)
  obtain ⟨D0, d0, rfl⟩ := p0.form
  obtain ⟨D1, d1, rfl⟩ := p1.form
  go_wp2
  refine bodyPost_ret (v := .tuple #[.agg #[.slice D0 d.Safe.length d0, .slice D1 d.Loose.length d1], .bool false]) (by simp [results, Try.results25, go_sem, hc1, hf1]) rfl ⟨[.slice D0 d.Safe.length d0, .slice D1 d.Loose.length d1], by rw [HN.out.1], ?_, by (repeat (first | (with_reducible exact Below.refl _ _) | (with_reducible assumption) | ((with_reducible refine Below.setCell ?_ ?_ _); rotate_left; focus (first | omega | (simp; done) | (simp; omega))) | ((with_reducible refine Below.alloc ?_ ?_ _); rotate_left; focus (first | omega | (simp; done) | (simp; omega))) | (with_reducible refine Below.drew ?_) | (with_reducible refine below_drewN ?_ _) | (refine Below.trans ?_ (Below.mono (by with_reducible assumption) (by (first | omega | (simp; done) | (simp; omega)))))))⟩
  rw [HN.out.2]
  exact DiskR.own_wide (DiskR.own_off ho4 (by (repeat (first | (with_reducible exact Out.refl _ _) | (with_reducible assumption) | ((with_reducible refine Out.setCell ?_ ?_ _); rotate_left; focus (first | (refine Or.inl ?_; (first | omega | (simp; done) | (simp; omega))) | (refine Or.inr ?_; (first | omega | (simp; done) | (simp; omega))))) | (with_reducible refine Out.alloc ?_ _) | (with_reducible refine Out.drew ?_) | (with_reducible refine Out.drewN ?_ _) | (refine Out.step ?_ (by with_reducible assumption)))))) (inR_mono (by first | omega | (simp; done) | (simp; omega)) (by first | omega | (simp; done) | (simp; omega)))
end Go.Proofs.Ytndgaakfndokgaa

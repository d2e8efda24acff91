/- whole, SyncLog, CrashLog. -/
import Derived.Test.YtgaenfkjobkmjaaLog
import Derived.Lib.MinMax
set_option linter.unusedSimpArgs false
set_option linter.unusedVariables false
set_option maxRecDepth 20000
namespace Go.Proofs.Ytgaenfkjobkmjaa
open Go.RowKit
def syncLog (d : Disk) : Disk := match d.ok with | true => ⟨d.Safe ++ d.Loose, []⟩ | false => d
def kept (k : Int) (n : Nat) : Nat := if k < 0 then 0 else if (n : Int) < k then n else k.toNat
theorem kept_le (k : Int) (n : Nat) : kept k n ≤ n := by unfold kept; split <;> (try split) <;> omega
def crashLog (d : Disk) (k : Int) : Disk := match d.ok with | true => ⟨d.Safe ++ d.Loose.take (kept k d.Loose.length), []⟩ | false => d
theorem syncLog_ok {d : Disk} (h : d.ok = true) : syncLog d = ⟨d.Safe ++ d.Loose, []⟩ := by unfold syncLog; rw [h]
theorem syncLog_no {d : Disk} (h : d.ok = false) : syncLog d = d := by unfold syncLog; rw [h]
theorem crashLog_ok {d : Disk} {k : Int} (h : d.ok = true) : crashLog d k = ⟨d.Safe ++ d.Loose.take (kept k d.Loose.length), []⟩ := by unfold crashLog; rw [h]
theorem crashLog_no {d : Disk} {k : Int} (h : d.ok = false) : crashLog d k = d := by unfold crashLog; rw [h]
theorem syncLog_sz (d : Disk) : DiskR.sz (syncLog d) = DiskR.sz d := by
  cases h : d.ok
  · rw [syncLog_no h]
  · rw [syncLog_ok h, sz_Disk, sz_Disk]; simp only [sz_ByteS, List.length_append, List.length_nil]; omega
theorem crashLog_sz (d : Disk) (k : Int) : DiskR.sz (crashLog d k) ≤ DiskR.sz d := by
  cases h : d.ok
  · rw [crashLog_no h]; exact Nat.le_refl _
  · have := kept_le k d.Loose.length
    rw [crashLog_ok h, sz_Disk, sz_Disk]; simp only [sz_ByteS, List.length_append, List.length_nil, List.length_take]; omega
theorem SlOwn.nilB {w : World} {c : Nat} (hc : c ≤ 9223372036854775807) : SlOwn byteR 5 w (fun _ => False) (.slice none 0 c) [] :=
  SlOwn.of_rows (f := fun x => [byteV x]) (xs := []) (Rows.nil) (Nat.zero_le _) hc (fun _ _ => trivial)
/-- A disk whose safe part alone is a row of its own. -/
theorem own_safe {w : World} {base lo hi : Nat} {A : Option Addr} {c : Nat} {xs : List UInt8} (h : w.ownsRow base 5 1 (.slice A xs.length c) xs.length (xs.map byteV)) (h1 : lo ≤ base) (h2 : w.heap.size ≤ hi) :
    DiskR.Own w (InR lo hi) [.slice A xs.length c, .slice none 0 0] ⟨xs, []⟩ :=
  of_own_Disk (x := ⟨xs, []⟩) (of_own_ByteS h) (SlOwn.nilB (by omega)) (fun g hg => by have := h.lt g hg; exact ⟨by omega, by omega⟩) (fun g hg => hg.elim) (fun g _ hg => hg)
set_option maxHeartbeats 800000 in
theorem impl_whole (cs : List Value) (d : Disk) (w : World) (h : DiskR.Rd w w.heap.size cs d) (hm : DiskR.sz d ≤ 1048576) :
    Calls Try.prog 61 #[.agg cs.toArray] w fun e w' => ∃ A c, e = .returned (.slice A (d.Safe ++ d.Loose).length c) ∧ w'.ownsRow w.heap.size 5 1 (.slice A (d.Safe ++ d.Loose).length c) (d.Safe ++ d.Loose).length ((d.Safe ++ d.Loose).map byteV) ∧ Below w.heap.size w w' := by
  obtain ⟨v0, v1, rfl, q0, q1⟩ := rd_Disk h
  obtain ⟨A0, c0, rfl⟩ := q0.form
  obtain ⟨A1, c1, rfl⟩ := q1.form
  have hl := len_sz_Disk hm
  have hp : pieces [(A0, c0, d.Safe), (A1, c1, d.Loose)] = d.Safe ++ d.Loose := by simp [pieces]
  go_enter Try.func61, Try.ntmps61
  go_wp2_with fail
  refine (slices_Concat_byte (some ⟨w.heap.size + 1, 0, none⟩) 2 [(A0, c0, d.Safe), (A1, c1, d.Loose)] _ ?_ ?_ (by simp) (by rw [hp, List.length_append]; omega)).mono ?_
  · exact (Reads.of_blk (Blk.new' (by simp))).more (by simp)
  · intro r hr
    simp only [List.mem_cons, List.not_mem_nil, or_false] at hr
    rcases hr with rfl | rfl
    · exact ((rd_ByteS q0).2.1.keep (by (repeat (first | (with_reducible exact Below.refl _ _) | (with_reducible assumption) | ((with_reducible refine Below.setCell ?_ ?_ _); rotate_left; focus (first | omega | (simp; done) | (simp; omega))) | ((with_reducible refine Below.alloc ?_ ?_ _); rotate_left; focus (first | omega | (simp; done) | (simp; omega))) | (with_reducible refine Below.drew ?_) | (with_reducible refine below_drewN ?_ _) | (refine Below.trans ?_ (Below.mono (by with_reducible assumption) (by (first | omega | (simp; done) | (simp; omega)))))))) (by simp; try omega))
    · exact ((rd_ByteS q1).2.1.keep (by (repeat (first | (with_reducible exact Below.refl _ _) | (with_reducible assumption) | ((with_reducible refine Below.setCell ?_ ?_ _); rotate_left; focus (first | omega | (simp; done) | (simp; omega))) | ((with_reducible refine Below.alloc ?_ ?_ _); rotate_left; focus (first | omega | (simp; done) | (simp; omega))) | (with_reducible refine Below.drew ?_) | (with_reducible refine below_drewN ?_ _) | (refine Below.trans ?_ (Below.mono (by with_reducible assumption) (by (first | omega | (simp; done) | (simp; omega)))))))) (by simp; try omega))
  · rintro e w1 ⟨A, c, rfl, ho, hb⟩
    rw [hp] at ho ⊢
    go_wp2
    go_ret
    exact ⟨A, c, by rw [List.length_append]; rfl, own_base ho (by simp; try omega), by (repeat (first | (with_reducible exact Below.refl _ _) | (with_reducible assumption) | ((with_reducible refine Below.setCell ?_ ?_ _); rotate_left; focus (first | omega | (simp; done) | (simp; omega))) | ((with_reducible refine Below.alloc ?_ ?_ _); rotate_left; focus (first | omega | (simp; done) | (simp; omega))) | (with_reducible refine Below.drew ?_) | (with_reducible refine below_drewN ?_ _) | (refine Below.trans ?_ (Below.mono (by with_reducible assumption) (by (first | omega | (simp; done) | (simp; omega)))))))⟩
set_option maxHeartbeats 800000 in
theorem impl_SyncLog (cs : List Value) (d : Disk) (w : World) (h : DiskR.Rd w w.heap.size cs d) (hm : DiskR.sz d ≤ 1048576) :
    Calls Try.prog 44 #[.agg cs.toArray] w fun e w' => ∃ cs', e = .returned (.agg cs'.toArray) ∧ DiskR.Own w' (InR w.heap.size w'.heap.size) cs' (syncLog d) ∧ Below w.heap.size w w' := by
  obtain ⟨v0, v1, rfl, q0, q1⟩ := rd_Disk h
  obtain ⟨A0, c0, rfl⟩ := q0.form
  obtain ⟨A1, c1, rfl⟩ := q1.form
  have hl := len_sz_Disk hm
  have r0 := (rd_ByteS q0).2.1
  have r1 := (rd_ByteS q1).2.1
  cases hok : d.ok
  · rw [syncLog_no hok]
    have Hok := Lib.hid hok
    clear hok
    go_enter Try.func44, Try.ntmps44
    go_wp2_with fail
    refine (impl_isDisk _ d _ (DiskR.rd_keep h (by (repeat (first | (with_reducible exact Below.refl _ _) | (with_reducible assumption) | ((with_reducible refine Below.setCell ?_ ?_ _); rotate_left; focus (first | omega | (simp; done) | (simp; omega))) | ((with_reducible refine Below.alloc ?_ ?_ _); rotate_left; focus (first | omega | (simp; done) | (simp; omega))) | (with_reducible refine Below.drew ?_) | (with_reducible refine below_drewN ?_ _) | (refine Below.trans ?_ (Below.mono (by with_reducible assumption) (by (first | omega | (simp; done) | (simp; omega)))))))) (by first | omega | (simp; done) | (simp; omega))) hm).mono ?_
    rintro e w1 ⟨rfl, hb1⟩
    rw [Hok.out]
    have hz1 := hb1.size; try simp at hz1
    have BK0 := (by (repeat (first | (with_reducible assumption) | ((with_reducible refine Blk.new' ?_); focus (simp; done)) | (with_reducible refine Blk.alloc ?_ _) | (with_reducible refine Blk.drew ?_) | (with_reducible refine Blk.drewN ?_ _) | ((with_reducible refine Blk.far ?_ ?_ _); rotate_left; focus (first | omega | (simp; done) | (simp; omega))) | (refine Blk.keep ?_ (by with_reducible assumption)) | (refine Blk.below ?_ (by with_reducible assumption) (by (first | omega | (simp; done) | (simp; omega)))))) : Blk w1 w.heap.size 44 #[.slice A0 d.Safe.length c0, .slice A1 d.Loose.length c1]); have hc0 := BK0.cell; have hf0 := BK0.frozen
    have BK1 := ((Blk.new' (by simp)).keep hb1 : Blk w1 (w.heap.size + 1) 44 #[.slice none 0 0, .slice none 0 0]); have hc1 := BK1.cell; have hf1 := BK1.frozen
    go_wp2_with fail
    refine (impl_cloneDisk _ d _ (DiskR.rd_keep h (by (repeat (first | (with_reducible exact Below.refl _ _) | (with_reducible assumption) | ((with_reducible refine Below.setCell ?_ ?_ _); rotate_left; focus (first | omega | (simp; done) | (simp; omega))) | ((with_reducible refine Below.alloc ?_ ?_ _); rotate_left; focus (first | omega | (simp; done) | (simp; omega))) | (with_reducible refine Below.drew ?_) | (with_reducible refine below_drewN ?_ _) | (refine Below.trans ?_ (Below.mono (by with_reducible assumption) (by (first | omega | (simp; done) | (simp; omega)))))))) (by first | omega | (simp; done) | (simp; omega))) hm).mono ?_
    rintro e w2 ⟨cs', rfl, ho, hb2⟩
    have hz2 := hb2.size; try simp at hz2
    replace BK1 := BK1.keep hb2; replace hc1 := BK1.cell; replace hf1 := BK1.frozen
    obtain ⟨_, _, _, _, rfl, p0, p1, -⟩ := own_Disk ho
    obtain ⟨D0, d0, rfl⟩ := p0.form
    obtain ⟨D1, d1, rfl⟩ := p1.form
    go_wp2
    refine bodyPost_ret (v := .agg #[.slice D0 d.Safe.length d0, .slice D1 d.Loose.length d1]) (by simp [results, Try.results44, go_sem, hc1, hf1]) rfl ⟨[.slice D0 d.Safe.length d0, .slice D1 d.Loose.length d1], rfl, ?_, by (repeat (first | (with_reducible exact Below.refl _ _) | (with_reducible assumption) | ((with_reducible refine Below.setCell ?_ ?_ _); rotate_left; focus (first | omega | (simp; done) | (simp; omega))) | ((with_reducible refine Below.alloc ?_ ?_ _); rotate_left; focus (first | omega | (simp; done) | (simp; omega))) | (with_reducible refine Below.drew ?_) | (with_reducible refine below_drewN ?_ _) | (refine Below.trans ?_ (Below.mono (by with_reducible assumption) (by (first | omega | (simp; done) | (simp; omega)))))))⟩
    exact DiskR.own_wide (DiskR.own_off ho (by (repeat (first | (with_reducible exact Out.refl _ _) | (with_reducible assumption) | ((with_reducible refine Out.setCell ?_ ?_ _); rotate_left; focus (first | (refine Or.inl ?_; (first | omega | (simp; done) | (simp; omega))) | (refine Or.inr ?_; (first | omega | (simp; done) | (simp; omega))))) | (with_reducible refine Out.alloc ?_ _) | (with_reducible refine Out.drew ?_) | (with_reducible refine Out.drewN ?_ _) | (refine Out.step ?_ (by with_reducible assumption)))))) (inR_mono (by first | omega | (simp; done) | (simp; omega)) (by first | omega | (simp; done) | (simp; omega)))
  · rw [syncLog_ok hok]
    have Hok := Lib.hid hok
    clear hok
    go_enter Try.func44, Try.ntmps44
    go_wp2_with fail
    refine (impl_isDisk _ d _ (DiskR.rd_keep h (by (repeat (first | (with_reducible exact Below.refl _ _) | (with_reducible assumption) | ((with_reducible refine Below.setCell ?_ ?_ _); rotate_left; focus (first | omega | (simp; done) | (simp; omega))) | ((with_reducible refine Below.alloc ?_ ?_ _); rotate_left; focus (first | omega | (simp; done) | (simp; omega))) | (with_reducible refine Below.drew ?_) | (with_reducible refine below_drewN ?_ _) | (refine Below.trans ?_ (Below.mono (by with_reducible assumption) (by (first | omega | (simp; done) | (simp; omega)))))))) (by first | omega | (simp; done) | (simp; omega))) hm).mono ?_
    rintro e w1 ⟨rfl, hb1⟩
    rw [Hok.out]
    have hz1 := hb1.size; try simp at hz1
    have BK0 := (by (repeat (first | (with_reducible assumption) | ((with_reducible refine Blk.new' ?_); focus (simp; done)) | (with_reducible refine Blk.alloc ?_ _) | (with_reducible refine Blk.drew ?_) | (with_reducible refine Blk.drewN ?_ _) | ((with_reducible refine Blk.far ?_ ?_ _); rotate_left; focus (first | omega | (simp; done) | (simp; omega))) | (refine Blk.keep ?_ (by with_reducible assumption)) | (refine Blk.below ?_ (by with_reducible assumption) (by (first | omega | (simp; done) | (simp; omega)))))) : Blk w1 w.heap.size 44 #[.slice A0 d.Safe.length c0, .slice A1 d.Loose.length c1]); have hc0 := BK0.cell; have hf0 := BK0.frozen
    have BK1 := ((Blk.new' (by simp)).keep hb1 : Blk w1 (w.heap.size + 1) 44 #[.slice none 0 0, .slice none 0 0]); have hc1 := BK1.cell; have hf1 := BK1.frozen
    go_wp2_with fail
    refine (impl_whole _ d _ (DiskR.rd_keep h (by (repeat (first | (with_reducible exact Below.refl _ _) | (with_reducible assumption) | ((with_reducible refine Below.setCell ?_ ?_ _); rotate_left; focus (first | omega | (simp; done) | (simp; omega))) | ((with_reducible refine Below.alloc ?_ ?_ _); rotate_left; focus (first | omega | (simp; done) | (simp; omega))) | (with_reducible refine Below.drew ?_) | (with_reducible refine below_drewN ?_ _) | (refine Below.trans ?_ (Below.mono (by with_reducible assumption) (by (first | omega | (simp; done) | (simp; omega)))))))) (by first | omega | (simp; done) | (simp; omega))) hm).mono ?_
    rintro e w2 ⟨A, c, rfl, ho, hb2⟩
    have hz2 := hb2.size; try simp at hz2
    replace BK1 := BK1.keep hb2; replace hc1 := BK1.cell; replace hf1 := BK1.frozen
    go_wp2
    refine bodyPost_ret (v := .agg #[.slice A (d.Safe ++ d.Loose).length c, .slice none 0 0]) (by simp [results, Try.results44, go_sem, hc1, hf1]) rfl ⟨[.slice A (d.Safe ++ d.Loose).length c, .slice none 0 0], rfl, ?_, by (repeat (first | (with_reducible exact Below.refl _ _) | (with_reducible assumption) | ((with_reducible refine Below.setCell ?_ ?_ _); rotate_left; focus (first | omega | (simp; done) | (simp; omega))) | ((with_reducible refine Below.alloc ?_ ?_ _); rotate_left; focus (first | omega | (simp; done) | (simp; omega))) | (with_reducible refine Below.drew ?_) | (with_reducible refine below_drewN ?_ _) | (refine Below.trans ?_ (Below.mono (by with_reducible assumption) (by (first | omega | (simp; done) | (simp; omega)))))))⟩
    refine own_safe (base := w1.heap.size) ?_ ?_ ?_
    · (repeat (first | (with_reducible exact ho) | ((with_reducible refine own_setCell ?_ ?_ _); rotate_left; focus (first | omega | (simp; done) | (simp; omega))) | (with_reducible refine World.ownsRow.alloc ?_ _) | (with_reducible refine own_drew ?_) | (with_reducible refine own_drewN ?_ _) | (refine own_below ?_ (by with_reducible assumption))))
    · omega
    · first | exact Nat.le_refl _ | omega | (simp; done) | (simp; omega)
set_option maxHeartbeats 800000 in
theorem spec_CrashLog (cs : List Value) (d : Disk) (k : Int) (w : World) (h : DiskR.Rd w w.heap.size cs d) (hm : DiskR.sz d ≤ 1048576) :
    Calls Try.prog 59 #[.agg cs.toArray, .int .i64 k] w fun e w' => ∃ cs', e = .returned (.agg cs'.toArray) ∧ DiskR.Own w' (InR w.heap.size w'.heap.size) cs' (crashLog d k) ∧ Below w.heap.size w w' := by
  obtain ⟨v0, v1, rfl, q0, q1⟩ := rd_Disk h
  obtain ⟨A0, c0, rfl⟩ := q0.form
  obtain ⟨A1, c1, rfl⟩ := q1.form
  have hl := len_sz_Disk hm
  have r0 := (rd_ByteS q0).2.1
  have r1 := (rd_ByteS q1).2.1
  cases hok : d.ok
  · rw [crashLog_no hok]
    have Hok := Lib.hid hok
    clear hok
    go_enter Try.func59, Try.ntmps59
    go_wp2_with fail
    refine (spec_DiskOk _ d _ (DiskR.rd_keep h (by (repeat (first | (with_reducible exact Below.refl _ _) | (with_reducible assumption) | ((with_reducible refine Below.setCell ?_ ?_ _); rotate_left; focus (first | omega | (simp; done) | (simp; omega))) | ((with_reducible refine Below.alloc ?_ ?_ _); rotate_left; focus (first | omega | (simp; done) | (simp; omega))) | (with_reducible refine Below.drew ?_) | (with_reducible refine below_drewN ?_ _) | (refine Below.trans ?_ (Below.mono (by with_reducible assumption) (by (first | omega | (simp; done) | (simp; omega)))))))) (by first | omega | (simp; done) | (simp; omega))) hm).mono ?_
    rintro e w1 ⟨rfl, hb1⟩
    rw [Hok.out]
    have hz1 := hb1.size; try simp at hz1
    have BK0 := (by (repeat (first | (with_reducible assumption) | ((with_reducible refine Blk.new' ?_); focus (simp; done)) | (with_reducible refine Blk.alloc ?_ _) | (with_reducible refine Blk.drew ?_) | (with_reducible refine Blk.drewN ?_ _) | ((with_reducible refine Blk.far ?_ ?_ _); rotate_left; focus (first | omega | (simp; done) | (simp; omega))) | (refine Blk.keep ?_ (by with_reducible assumption)) | (refine Blk.below ?_ (by with_reducible assumption) (by (first | omega | (simp; done) | (simp; omega)))))) : Blk w1 w.heap.size 44 #[.slice A0 d.Safe.length c0, .slice A1 d.Loose.length c1]); have hc0 := BK0.cell; have hf0 := BK0.frozen
    have BK1 := ((Blk.new' (by simp)).keep hb1 : Blk w1 (w.heap.size + 1) 44 #[.slice none 0 0, .slice none 0 0]); have hc1 := BK1.cell; have hf1 := BK1.frozen
    go_wp2_with fail
    refine (spec_l06Copy _ d _ (DiskR.rd_keep h (by (repeat (first | (with_reducible exact Below.refl _ _) | (with_reducible assumption) | ((with_reducible refine Below.setCell ?_ ?_ _); rotate_left; focus (first | omega | (simp; done) | (simp; omega))) | ((with_reducible refine Below.alloc ?_ ?_ _); rotate_left; focus (first | omega | (simp; done) | (simp; omega))) | (with_reducible refine Below.drew ?_) | (with_reducible refine below_drewN ?_ _) | (refine Below.trans ?_ (Below.mono (by with_reducible assumption) (by (first | omega | (simp; done) | (simp; omega)))))))) (by first | omega | (simp; done) | (simp; omega))) hm).mono ?_
    rintro e w2 ⟨cs', rfl, ho, hb2⟩
    have hz2 := hb2.size; try simp at hz2
    replace BK1 := BK1.keep hb2; replace hc1 := BK1.cell; replace hf1 := BK1.frozen
    obtain ⟨_, _, _, _, rfl, p0, p1, -⟩ := own_Disk ho
    obtain ⟨D0, d0, rfl⟩ := p0.form
    obtain ⟨D1, d1, rfl⟩ := p1.form
    go_wp2
    refine bodyPost_ret (v := .agg #[.slice D0 d.Safe.length d0, .slice D1 d.Loose.length d1]) (by simp [results, Try.results59, go_sem, hc1, hf1]) rfl ⟨[.slice D0 d.Safe.length d0, .slice D1 d.Loose.length d1], rfl, ?_, by (repeat (first | (with_reducible exact Below.refl _ _) | (with_reducible assumption) | ((with_reducible refine Below.setCell ?_ ?_ _); rotate_left; focus (first | omega | (simp; done) | (simp; omega))) | ((with_reducible refine Below.alloc ?_ ?_ _); rotate_left; focus (first | omega | (simp; done) | (simp; omega))) | (with_reducible refine Below.drew ?_) | (with_reducible refine below_drewN ?_ _) | (refine Below.trans ?_ (Below.mono (by with_reducible assumption) (by (first | omega | (simp; done) | (simp; omega)))))))⟩
    exact DiskR.own_wide (DiskR.own_off ho (by (repeat (first | (with_reducible exact Out.refl _ _) | (with_reducible assumption) | ((with_reducible refine Out.setCell ?_ ?_ _); rotate_left; focus (first | (refine Or.inl ?_; (first | omega | (simp; done) | (simp; omega))) | (refine Or.inr ?_; (first | omega | (simp; done) | (simp; omega))))) | (with_reducible refine Out.alloc ?_ _) | (with_reducible refine Out.drew ?_) | (with_reducible refine Out.drewN ?_ _) | (refine Out.step ?_ (by with_reducible assumption)))))) (inR_mono (by first | omega | (simp; done) | (simp; omega)) (by first | omega | (simp; done) | (simp; omega)))
  · rw [crashLog_ok hok]
    have Hok := Lib.hid hok
    clear hok
    go_enter Try.func59, Try.ntmps59
    go_wp2_with fail
    refine (spec_DiskOk _ d _ (DiskR.rd_keep h (by (repeat (first | (with_reducible exact Below.refl _ _) | (with_reducible assumption) | ((with_reducible refine Below.setCell ?_ ?_ _); rotate_left; focus (first | omega | (simp; done) | (simp; omega))) | ((with_reducible refine Below.alloc ?_ ?_ _); rotate_left; focus (first | omega | (simp; done) | (simp; omega))) | (with_reducible refine Below.drew ?_) | (with_reducible refine below_drewN ?_ _) | (refine Below.trans ?_ (Below.mono (by with_reducible assumption) (by (first | omega | (simp; done) | (simp; omega)))))))) (by first | omega | (simp; done) | (simp; omega))) hm).mono ?_
    rintro e w1 ⟨rfl, hb1⟩
    rw [Hok.out]
    have hz1 := hb1.size; try simp at hz1
    have BK0 := (by (repeat (first | (with_reducible assumption) | ((with_reducible refine Blk.new' ?_); focus (simp; done)) | (with_reducible refine Blk.alloc ?_ _) | (with_reducible refine Blk.drew ?_) | (with_reducible refine Blk.drewN ?_ _) | ((with_reducible refine Blk.far ?_ ?_ _); rotate_left; focus (first | omega | (simp; done) | (simp; omega))) | (refine Blk.keep ?_ (by with_reducible assumption)) | (refine Blk.below ?_ (by with_reducible assumption) (by (first | omega | (simp; done) | (simp; omega)))))) : Blk w1 w.heap.size 44 #[.slice A0 d.Safe.length c0, .slice A1 d.Loose.length c1]); have hc0 := BK0.cell; have hf0 := BK0.frozen
    have BK1 := ((Blk.new' (by simp)).keep hb1 : Blk w1 (w.heap.size + 1) 44 #[.slice none 0 0, .slice none 0 0]); have hc1 := BK1.cell; have hf1 := BK1.frozen
    have hkl := kept_le k d.Loose.length
    have hA1 : Reads w w.heap.size A1 ((d.Loose.take (kept k d.Loose.length)).map byteV) := by
      have h := r1
      rw [← List.take_append_drop (kept k d.Loose.length) d.Loose, List.map_append] at h
      exact h.prefix_
    have hlt2 : (d.Loose.take (kept k d.Loose.length)).length = kept k d.Loose.length := by rw [List.length_take]; omega
    have hcap := (rd_ByteS q1).2.2.1
    have hcap2 := (rd_ByteS q1).2.2.2
    have hcap0 := (rd_ByteS q0).2.2.2
    have HJ : Hid (∀ (w' : World), Below w.heap.size w w' → Calls Try.prog 49 #[.slice A0 d.Safe.length c0, .slice A1 (kept k d.Loose.length) c1] w' fun e w'' => ∃ A2 c2, e = .returned (.slice A2 (d.Safe ++ d.Loose.take (kept k d.Loose.length)).length c2) ∧ w''.ownsRow w'.heap.size 5 1 (.slice A2 (d.Safe ++ d.Loose.take (kept k d.Loose.length)).length c2) (d.Safe ++ d.Loose.take (kept k d.Loose.length)).length ((d.Safe ++ d.Loose.take (kept k d.Loose.length)).map byteV) ∧ Below w'.heap.size w' w'') := Lib.hid (by
      intro w' hb
      have hJ := spec_l01Join A0 A1 c0 c1 d.Safe (d.Loose.take (kept k d.Loose.length)) w' (r0.keep hb hb.size) (hA1.keep hb hb.size) (by omega) (by omega)
      rw [hlt2] at hJ
      exact hJ)
    have hk0 : kept k d.Loose.length = if k < 0 then 0 else if (d.Loose.length : Int) < k then d.Loose.length else k.toNat := rfl
    generalize hK : kept k d.Loose.length = K at *
    have HK := Lib.hid hK
    clear hA1 hlt2 hK
    generalize hR : d.Safe ++ d.Loose.take K = R at *
    have HRk : Hid (d.Safe ++ d.Loose.take (kept k d.Loose.length) = R) := Lib.hid (by rw [HK.out]; exact hR)
    clear hR HK
    have hI1 : (0 : Int) ≤ (K : Int) := by omega
    have hI2 : (K : Int) ≤ (c1 : Int) := by omega
    by_cases hkn : k < 0
    · rw [if_pos hkn] at hk0
      subst hk0
      go_wp2
      go_region_held3 (fun w' => w'.cell? ⟨w.heap.size, 0, none⟩ = some (.slice A0 d.Safe.length c0) ∧ w'.cell? ⟨w.heap.size, 1, none⟩ = some (.slice A1 d.Loose.length c1))
        (refine ⟨Blk.cell (t := 44) (cs := #[.slice A0 d.Safe.length c0, .slice A1 d.Loose.length c1]) ?_ 0, Blk.cell (t := 44) (cs := #[.slice A0 d.Safe.length c0, .slice A1 d.Loose.length c1]) ?_ 1⟩ <;> (repeat (first | (with_reducible assumption) | ((with_reducible refine Blk.new' ?_); focus (simp; done)) | (with_reducible refine Blk.alloc ?_ _) | (with_reducible refine Blk.drew ?_) | (with_reducible refine Blk.drewN ?_ _) | ((with_reducible refine Blk.far ?_ ?_ _); rotate_left; focus (first | omega | (simp; done) | (simp; omega))) | (refine Blk.keep ?_ (by with_reducible assumption)) | (refine Blk.below ?_ (by with_reducible assumption) (by (first | omega | (simp; done) | (simp; omega)))))))
        (first | (go_at_call 49; ((with_reducible refine (HJ.out _ ?_).mono ?_); (focus (repeat (first | (with_reducible exact Below.refl _ _) | (with_reducible assumption) | ((with_reducible refine Below.setCell ?_ ?_ _); rotate_left; focus (first | omega | (simp; done) | (simp; omega))) | ((with_reducible refine Below.alloc ?_ ?_ _); rotate_left; focus (first | omega | (simp; done) | (simp; omega))) | (with_reducible refine Below.drew ?_) | (with_reducible refine below_drewN ?_ _) | (refine Below.trans ?_ (Below.mono (by with_reducible assumption) (by (first | omega | (simp; done) | (simp; omega))))))))); rintro e w2 ⟨A, c, rfl, ho, hb2⟩; have BK2 : Blk w2 w.heap.size 44 #[.slice A0 d.Safe.length c0, .slice A1 d.Loose.length c1] := (by (repeat (first | (with_reducible assumption) | ((with_reducible refine Blk.new' ?_); focus (simp; done)) | (with_reducible refine Blk.alloc ?_ _) | (with_reducible refine Blk.drew ?_) | (with_reducible refine Blk.drewN ?_ _) | ((with_reducible refine Blk.far ?_ ?_ _); rotate_left; focus (first | omega | (simp; done) | (simp; omega))) | (refine Blk.keep ?_ (by with_reducible assumption)) | (refine Blk.below ?_ (by with_reducible assumption) (by (first | omega | (simp; done) | (simp; omega))))))); have BK1b : Blk w2 (w.heap.size + 1) 44 #[.slice none 0 0, .slice none 0 0] := (by (repeat (first | (with_reducible assumption) | ((with_reducible refine Blk.new' ?_); focus (simp; done)) | (with_reducible refine Blk.alloc ?_ _) | (with_reducible refine Blk.drew ?_) | (with_reducible refine Blk.drewN ?_ _) | ((with_reducible refine Blk.far ?_ ?_ _); rotate_left; focus (first | omega | (simp; done) | (simp; omega))) | (refine Blk.keep ?_ (by with_reducible assumption)) | (refine Blk.below ?_ (by with_reducible assumption) (by (first | omega | (simp; done) | (simp; omega))))))); have hcR := BK1b.cell; have hfR := BK1b.frozen; have hz2 := hb2.size; try simp at hz2))
      go_wp2
      refine bodyPost_ret (v := .agg #[.slice A R.length c, .slice none 0 0]) (by simp [results, Try.results59, go_sem, hcR, hfR]) rfl ⟨[.slice A R.length c, .slice none 0 0], rfl, ?_, by (repeat (first | (with_reducible exact Below.refl _ _) | (with_reducible assumption) | ((with_reducible refine Below.setCell ?_ ?_ _); rotate_left; focus (first | omega | (simp; done) | (simp; omega))) | ((with_reducible refine Below.alloc ?_ ?_ _); rotate_left; focus (first | omega | (simp; done) | (simp; omega))) | (with_reducible refine Below.drew ?_) | (with_reducible refine below_drewN ?_ _) | (refine Below.trans ?_ (Below.mono (by with_reducible assumption) (by (first | omega | (simp; done) | (simp; omega)))))))⟩
      replace ho := own_base (base' := w1.heap.size) ho (by first | omega | (simp; done) | (simp; omega))
      rw [HRk.out]
      refine own_safe (base := w1.heap.size) ?_ ?_ ?_
      · (repeat (first | (with_reducible exact ho) | ((with_reducible refine own_setCell ?_ ?_ _); rotate_left; focus (first | omega | (simp; done) | (simp; omega))) | (with_reducible refine World.ownsRow.alloc ?_ _) | (with_reducible refine own_drew ?_) | (with_reducible refine own_drewN ?_ _) | (refine own_below ?_ (by with_reducible assumption))))
      · omega
      · first | exact Nat.le_refl _ | omega | (simp; done) | (simp; omega)
    · rw [if_neg hkn] at hk0
      by_cases hkb : (d.Loose.length : Int) < k
      · rw [if_pos hkb] at hk0
        subst hk0
        go_wp2
        go_region_held3 (fun w' => w'.cell? ⟨w.heap.size, 0, none⟩ = some (.slice A0 d.Safe.length c0) ∧ w'.cell? ⟨w.heap.size, 1, none⟩ = some (.slice A1 d.Loose.length c1))
          (refine ⟨Blk.cell (t := 44) (cs := #[.slice A0 d.Safe.length c0, .slice A1 d.Loose.length c1]) ?_ 0, Blk.cell (t := 44) (cs := #[.slice A0 d.Safe.length c0, .slice A1 d.Loose.length c1]) ?_ 1⟩ <;> (repeat (first | (with_reducible assumption) | ((with_reducible refine Blk.new' ?_); focus (simp; done)) | (with_reducible refine Blk.alloc ?_ _) | (with_reducible refine Blk.drew ?_) | (with_reducible refine Blk.drewN ?_ _) | ((with_reducible refine Blk.far ?_ ?_ _); rotate_left; focus (first | omega | (simp; done) | (simp; omega))) | (refine Blk.keep ?_ (by with_reducible assumption)) | (refine Blk.below ?_ (by with_reducible assumption) (by (first | omega | (simp; done) | (simp; omega)))))))
          (first | (go_at_call 49; ((with_reducible refine (HJ.out _ ?_).mono ?_); (focus (repeat (first | (with_reducible exact Below.refl _ _) | (with_reducible assumption) | ((with_reducible refine Below.setCell ?_ ?_ _); rotate_left; focus (first | omega | (simp; done) | (simp; omega))) | ((with_reducible refine Below.alloc ?_ ?_ _); rotate_left; focus (first | omega | (simp; done) | (simp; omega))) | (with_reducible refine Below.drew ?_) | (with_reducible refine below_drewN ?_ _) | (refine Below.trans ?_ (Below.mono (by with_reducible assumption) (by (first | omega | (simp; done) | (simp; omega))))))))); rintro e w2 ⟨A, c, rfl, ho, hb2⟩; have BK2 : Blk w2 w.heap.size 44 #[.slice A0 d.Safe.length c0, .slice A1 d.Loose.length c1] := (by (repeat (first | (with_reducible assumption) | ((with_reducible refine Blk.new' ?_); focus (simp; done)) | (with_reducible refine Blk.alloc ?_ _) | (with_reducible refine Blk.drew ?_) | (with_reducible refine Blk.drewN ?_ _) | ((with_reducible refine Blk.far ?_ ?_ _); rotate_left; focus (first | omega | (simp; done) | (simp; omega))) | (refine Blk.keep ?_ (by with_reducible assumption)) | (refine Blk.below ?_ (by with_reducible assumption) (by (first | omega | (simp; done) | (simp; omega))))))); have BK1b : Blk w2 (w.heap.size + 1) 44 #[.slice none 0 0, .slice none 0 0] := (by (repeat (first | (with_reducible assumption) | ((with_reducible refine Blk.new' ?_); focus (simp; done)) | (with_reducible refine Blk.alloc ?_ _) | (with_reducible refine Blk.drew ?_) | (with_reducible refine Blk.drewN ?_ _) | ((with_reducible refine Blk.far ?_ ?_ _); rotate_left; focus (first | omega | (simp; done) | (simp; omega))) | (refine Blk.keep ?_ (by with_reducible assumption)) | (refine Blk.below ?_ (by with_reducible assumption) (by (first | omega | (simp; done) | (simp; omega))))))); have hcR := BK1b.cell; have hfR := BK1b.frozen; have hz2 := hb2.size; try simp at hz2))
        go_wp2
        refine bodyPost_ret (v := .agg #[.slice A R.length c, .slice none 0 0]) (by simp [results, Try.results59, go_sem, hcR, hfR]) rfl ⟨[.slice A R.length c, .slice none 0 0], rfl, ?_, by (repeat (first | (with_reducible exact Below.refl _ _) | (with_reducible assumption) | ((with_reducible refine Below.setCell ?_ ?_ _); rotate_left; focus (first | omega | (simp; done) | (simp; omega))) | ((with_reducible refine Below.alloc ?_ ?_ _); rotate_left; focus (first | omega | (simp; done) | (simp; omega))) | (with_reducible refine Below.drew ?_) | (with_reducible refine below_drewN ?_ _) | (refine Below.trans ?_ (Below.mono (by with_reducible assumption) (by (first | omega | (simp; done) | (simp; omega)))))))⟩
        replace ho := own_base (base' := w1.heap.size) ho (by first | omega | (simp; done) | (simp; omega))
        rw [HRk.out]
        refine own_safe (base := w1.heap.size) ?_ ?_ ?_
        · (repeat (first | (with_reducible exact ho) | ((with_reducible refine own_setCell ?_ ?_ _); rotate_left; focus (first | omega | (simp; done) | (simp; omega))) | (with_reducible refine World.ownsRow.alloc ?_ _) | (with_reducible refine own_drew ?_) | (with_reducible refine own_drewN ?_ _) | (refine own_below ?_ (by with_reducible assumption))))
        · omega
        · first | exact Nat.le_refl _ | omega | (simp; done) | (simp; omega)
      · rw [if_neg hkb] at hk0
        have hk1 : k = (K : Int) := by omega
        subst hk1
        clear hk0
        go_wp2
        go_region_held3 (fun w' => w'.cell? ⟨w.heap.size, 0, none⟩ = some (.slice A0 d.Safe.length c0) ∧ w'.cell? ⟨w.heap.size, 1, none⟩ = some (.slice A1 d.Loose.length c1))
          (refine ⟨Blk.cell (t := 44) (cs := #[.slice A0 d.Safe.length c0, .slice A1 d.Loose.length c1]) ?_ 0, Blk.cell (t := 44) (cs := #[.slice A0 d.Safe.length c0, .slice A1 d.Loose.length c1]) ?_ 1⟩ <;> (repeat (first | (with_reducible assumption) | ((with_reducible refine Blk.new' ?_); focus (simp; done)) | (with_reducible refine Blk.alloc ?_ _) | (with_reducible refine Blk.drew ?_) | (with_reducible refine Blk.drewN ?_ _) | ((with_reducible refine Blk.far ?_ ?_ _); rotate_left; focus (first | omega | (simp; done) | (simp; omega))) | (refine Blk.keep ?_ (by with_reducible assumption)) | (refine Blk.below ?_ (by with_reducible assumption) (by (first | omega | (simp; done) | (simp; omega)))))))
          (first | (go_at_call 49; ((with_reducible refine (HJ.out _ ?_).mono ?_); (focus (repeat (first | (with_reducible exact Below.refl _ _) | (with_reducible assumption) | ((with_reducible refine Below.setCell ?_ ?_ _); rotate_left; focus (first | omega | (simp; done) | (simp; omega))) | ((with_reducible refine Below.alloc ?_ ?_ _); rotate_left; focus (first | omega | (simp; done) | (simp; omega))) | (with_reducible refine Below.drew ?_) | (with_reducible refine below_drewN ?_ _) | (refine Below.trans ?_ (Below.mono (by with_reducible assumption) (by (first | omega | (simp; done) | (simp; omega))))))))); rintro e w2 ⟨A, c, rfl, ho, hb2⟩; have BK2 : Blk w2 w.heap.size 44 #[.slice A0 d.Safe.length c0, .slice A1 d.Loose.length c1] := (by (repeat (first | (with_reducible assumption) | ((with_reducible refine Blk.new' ?_); focus (simp; done)) | (with_reducible refine Blk.alloc ?_ _) | (with_reducible refine Blk.drew ?_) | (with_reducible refine Blk.drewN ?_ _) | ((with_reducible refine Blk.far ?_ ?_ _); rotate_left; focus (first | omega | (simp; done) | (simp; omega))) | (refine Blk.keep ?_ (by with_reducible assumption)) | (refine Blk.below ?_ (by with_reducible assumption) (by (first | omega | (simp; done) | (simp; omega))))))); have BK1b : Blk w2 (w.heap.size + 1) 44 #[.slice none 0 0, .slice none 0 0] := (by (repeat (first | (with_reducible assumption) | ((with_reducible refine Blk.new' ?_); focus (simp; done)) | (with_reducible refine Blk.alloc ?_ _) | (with_reducible refine Blk.drew ?_) | (with_reducible refine Blk.drewN ?_ _) | ((with_reducible refine Blk.far ?_ ?_ _); rotate_left; focus (first | omega | (simp; done) | (simp; omega))) | (refine Blk.keep ?_ (by with_reducible assumption)) | (refine Blk.below ?_ (by with_reducible assumption) (by (first | omega | (simp; done) | (simp; omega))))))); have hcR := BK1b.cell; have hfR := BK1b.frozen; have hz2 := hb2.size; try simp at hz2))
        go_wp2
        refine bodyPost_ret (v := .agg #[.slice A R.length c, .slice none 0 0]) (by simp [results, Try.results59, go_sem, hcR, hfR]) rfl ⟨[.slice A R.length c, .slice none 0 0], rfl, ?_, by (repeat (first | (with_reducible exact Below.refl _ _) | (with_reducible assumption) | ((with_reducible refine Below.setCell ?_ ?_ _); rotate_left; focus (first | omega | (simp; done) | (simp; omega))) | ((with_reducible refine Below.alloc ?_ ?_ _); rotate_left; focus (first | omega | (simp; done) | (simp; omega))) | (with_reducible refine Below.drew ?_) | (with_reducible refine below_drewN ?_ _) | (refine Below.trans ?_ (Below.mono (by with_reducible assumption) (by (first | omega | (simp; done) | (simp; omega)))))))⟩
        replace ho := own_base (base' := w1.heap.size) ho (by first | omega | (simp; done) | (simp; omega))
        rw [HRk.out]
        refine own_safe (base := w1.heap.size) ?_ ?_ ?_
        · (repeat (first | (with_reducible exact ho) | ((with_reducible refine own_setCell ?_ ?_ _); rotate_left; focus (first | omega | (simp; done) | (simp; omega))) | (with_reducible refine World.ownsRow.alloc ?_ _) | (with_reducible refine own_drew ?_) | (with_reducible refine own_drewN ?_ _) | (refine own_below ?_ (by with_reducible assumption))))
        · omega
        · first | exact Nat.le_refl _ | omega | (simp; done) | (simp; omega)

set_option maxHeartbeats 800000 in
theorem impl_CrashLog (cs : List Value) (d : Disk) (k : Int) (w : World) (h : DiskR.Rd w w.heap.size cs d) (hm : DiskR.sz d ≤ 1048576) :
    Calls Try.prog 45 #[.agg cs.toArray, .int .i64 k] w fun e w' => ∃ cs', e = .returned (.agg cs'.toArray) ∧ DiskR.Own w' (InR w.heap.size w'.heap.size) cs' (crashLog d k) ∧ Below w.heap.size w w' := by
  obtain ⟨v0, v1, rfl, q0, q1⟩ := rd_Disk h
  obtain ⟨A0, c0, rfl⟩ := q0.form
  obtain ⟨A1, c1, rfl⟩ := q1.form
  have hl := len_sz_Disk hm
  have r0 := (rd_ByteS q0).2.1
  have r1 := (rd_ByteS q1).2.1
  cases hok : d.ok
  · rw [crashLog_no hok]
    have Hok := Lib.hid hok
    clear hok
    go_enter Try.func45, Try.ntmps45
    go_wp2_with fail
    refine (impl_isDisk _ d _ (DiskR.rd_keep h (by (repeat (first | (with_reducible exact Below.refl _ _) | (with_reducible assumption) | ((with_reducible refine Below.setCell ?_ ?_ _); rotate_left; focus (first | omega | (simp; done) | (simp; omega))) | ((with_reducible refine Below.alloc ?_ ?_ _); rotate_left; focus (first | omega | (simp; done) | (simp; omega))) | (with_reducible refine Below.drew ?_) | (with_reducible refine below_drewN ?_ _) | (refine Below.trans ?_ (Below.mono (by with_reducible assumption) (by (first | omega | (simp; done) | (simp; omega)))))))) (by first | omega | (simp; done) | (simp; omega))) hm).mono ?_
    rintro e w1 ⟨rfl, hb1⟩
    rw [Hok.out]
    have hz1 := hb1.size; try simp at hz1
    have BK0 := (by (repeat (first | (with_reducible assumption) | ((with_reducible refine Blk.new' ?_); focus (simp; done)) | (with_reducible refine Blk.alloc ?_ _) | (with_reducible refine Blk.drew ?_) | (with_reducible refine Blk.drewN ?_ _) | ((with_reducible refine Blk.far ?_ ?_ _); rotate_left; focus (first | omega | (simp; done) | (simp; omega))) | (refine Blk.keep ?_ (by with_reducible assumption)) | (refine Blk.below ?_ (by with_reducible assumption) (by (first | omega | (simp; done) | (simp; omega)))))) : Blk w1 w.heap.size 44 #[.slice A0 d.Safe.length c0, .slice A1 d.Loose.length c1]); have hc0 := BK0.cell; have hf0 := BK0.frozen
    have BK1 := ((Blk.new' (by simp)).keep hb1 : Blk w1 (w.heap.size + 1) 44 #[.slice none 0 0, .slice none 0 0]); have hc1 := BK1.cell; have hf1 := BK1.frozen
    go_wp2_with fail
    refine (impl_cloneDisk _ d _ (DiskR.rd_keep h (by (repeat (first | (with_reducible exact Below.refl _ _) | (with_reducible assumption) | ((with_reducible refine Below.setCell ?_ ?_ _); rotate_left; focus (first | omega | (simp; done) | (simp; omega))) | ((with_reducible refine Below.alloc ?_ ?_ _); rotate_left; focus (first | omega | (simp; done) | (simp; omega))) | (with_reducible refine Below.drew ?_) | (with_reducible refine below_drewN ?_ _) | (refine Below.trans ?_ (Below.mono (by with_reducible assumption) (by (first | omega | (simp; done) | (simp; omega)))))))) (by first | omega | (simp; done) | (simp; omega))) hm).mono ?_
    rintro e w2 ⟨cs', rfl, ho, hb2⟩
    have hz2 := hb2.size; try simp at hz2
    replace BK1 := BK1.keep hb2; replace hc1 := BK1.cell; replace hf1 := BK1.frozen
    obtain ⟨_, _, _, _, rfl, p0, p1, -⟩ := own_Disk ho
    obtain ⟨D0, d0, rfl⟩ := p0.form
    obtain ⟨D1, d1, rfl⟩ := p1.form
    go_wp2
    refine bodyPost_ret (v := .agg #[.slice D0 d.Safe.length d0, .slice D1 d.Loose.length d1]) (by simp [results, Try.results45, go_sem, hc1, hf1]) rfl ⟨[.slice D0 d.Safe.length d0, .slice D1 d.Loose.length d1], rfl, ?_, by (repeat (first | (with_reducible exact Below.refl _ _) | (with_reducible assumption) | ((with_reducible refine Below.setCell ?_ ?_ _); rotate_left; focus (first | omega | (simp; done) | (simp; omega))) | ((with_reducible refine Below.alloc ?_ ?_ _); rotate_left; focus (first | omega | (simp; done) | (simp; omega))) | (with_reducible refine Below.drew ?_) | (with_reducible refine below_drewN ?_ _) | (refine Below.trans ?_ (Below.mono (by with_reducible assumption) (by (first | omega | (simp; done) | (simp; omega)))))))⟩
    exact DiskR.own_wide (DiskR.own_off ho (by (repeat (first | (with_reducible exact Out.refl _ _) | (with_reducible assumption) | ((with_reducible refine Out.setCell ?_ ?_ _); rotate_left; focus (first | (refine Or.inl ?_; (first | omega | (simp; done) | (simp; omega))) | (refine Or.inr ?_; (first | omega | (simp; done) | (simp; omega))))) | (with_reducible refine Out.alloc ?_ _) | (with_reducible refine Out.drew ?_) | (with_reducible refine Out.drewN ?_ _) | (refine Out.step ?_ (by with_reducible assumption)))))) (inR_mono (by first | omega | (simp; done) | (simp; omega)) (by first | omega | (simp; done) | (simp; omega)))
  · rw [crashLog_ok hok]
    have Hok := Lib.hid hok
    clear hok
    go_enter Try.func45, Try.ntmps45
    go_wp2_with fail
    refine (impl_isDisk _ d _ (DiskR.rd_keep h (by (repeat (first | (with_reducible exact Below.refl _ _) | (with_reducible assumption) | ((with_reducible refine Below.setCell ?_ ?_ _); rotate_left; focus (first | omega | (simp; done) | (simp; omega))) | ((with_reducible refine Below.alloc ?_ ?_ _); rotate_left; focus (first | omega | (simp; done) | (simp; omega))) | (with_reducible refine Below.drew ?_) | (with_reducible refine below_drewN ?_ _) | (refine Below.trans ?_ (Below.mono (by with_reducible assumption) (by (first | omega | (simp; done) | (simp; omega)))))))) (by first | omega | (simp; done) | (simp; omega))) hm).mono ?_
    rintro e w1 ⟨rfl, hb1⟩
    rw [Hok.out]
    have hz1 := hb1.size; try simp at hz1
    have BK0 := (by (repeat (first | (with_reducible assumption) | ((with_reducible refine Blk.new' ?_); focus (simp; done)) | (with_reducible refine Blk.alloc ?_ _) | (with_reducible refine Blk.drew ?_) | (with_reducible refine Blk.drewN ?_ _) | ((with_reducible refine Blk.far ?_ ?_ _); rotate_left; focus (first | omega | (simp; done) | (simp; omega))) | (refine Blk.keep ?_ (by with_reducible assumption)) | (refine Blk.below ?_ (by with_reducible assumption) (by (first | omega | (simp; done) | (simp; omega)))))) : Blk w1 w.heap.size 44 #[.slice A0 d.Safe.length c0, .slice A1 d.Loose.length c1]); have hc0 := BK0.cell; have hf0 := BK0.frozen
    have BK1 := ((Blk.new' (by simp)).keep hb1 : Blk w1 (w.heap.size + 1) 44 #[.slice none 0 0, .slice none 0 0]); have hc1 := BK1.cell; have hf1 := BK1.frozen
    have hkl := kept_le k d.Loose.length
    have hA1 : Reads w w.heap.size A1 ((d.Loose.take (kept k d.Loose.length)).map byteV) := by
      have h := r1
      rw [← List.take_append_drop (kept k d.Loose.length) d.Loose, List.map_append] at h
      exact h.prefix_
    have hlt2 : (d.Loose.take (kept k d.Loose.length)).length = kept k d.Loose.length := by rw [List.length_take]; omega
    have hcap := (rd_ByteS q1).2.2.1
    have hcap2 := (rd_ByteS q1).2.2.2
    have hcap0 := (rd_ByteS q0).2.2.2
    have hp : pieces [(A0, c0, d.Safe), (A1, c1, d.Loose.take (kept k d.Loose.length))] = d.Safe ++ d.Loose.take (kept k d.Loose.length) := by simp [pieces]
    have HJ : Hid (∀ (w' : World) (g : Nat), Below w.heap.size w w' → Blk w' g 22 #[.slice A0 d.Safe.length c0, .slice A1 (kept k d.Loose.length) c1] → Calls Try.prog 82 #[.slice (some ⟨g, 0, none⟩) 2 2] w' fun e w'' => ∃ A2 c2, e = .returned (.slice A2 (d.Safe ++ d.Loose.take (kept k d.Loose.length)).length c2) ∧ w''.ownsRow w'.heap.size 5 1 (.slice A2 (d.Safe ++ d.Loose.take (kept k d.Loose.length)).length c2) (d.Safe ++ d.Loose.take (kept k d.Loose.length)).length ((d.Safe ++ d.Loose.take (kept k d.Loose.length)).map byteV) ∧ Below w'.heap.size w' w'') := Lib.hid (by
      intro w' g hb hbl
      have hJ := slices_Concat_byte (some ⟨g, 0, none⟩) 2 [(A0, c0, d.Safe), (A1, c1, d.Loose.take (kept k d.Loose.length))] w' (by have := Reads.of_blk hbl; simpa [Piece.val, hlt2] using this) (by
        intro r hr
        simp only [List.mem_cons, List.not_mem_nil, or_false] at hr
        rcases hr with rfl | rfl
        · exact r0.keep hb hb.size
        · exact hA1.keep hb hb.size) (by simp) (by rw [hp, List.length_append]; omega)
      rw [hp] at hJ
      exact hJ)
    have HMM : max 0 (min k (d.Loose.length : Int)) = ((kept k d.Loose.length : Nat) : Int) := by unfold kept; split <;> (try split) <;> omega
    generalize hK : kept k d.Loose.length = K at *
    have HK := Lib.hid hK
    clear hA1 hlt2 hK hp
    generalize hR : d.Safe ++ d.Loose.take K = R at *
    have HRk : Hid (d.Safe ++ d.Loose.take (kept k d.Loose.length) = R) := Lib.hid (by rw [HK.out]; exact hR)
    clear hR HK
    have hI1 : (0 : Int) ≤ (K : Int) := by omega
    have hI2 : (K : Int) ≤ (c1 : Int) := by omega
    go_wp2
    go_region_held3 (fun w' => w'.cell? ⟨w.heap.size, 0, none⟩ = some (.slice A0 d.Safe.length c0) ∧ w'.cell? ⟨w.heap.size, 1, none⟩ = some (.slice A1 d.Loose.length c1))
      (refine ⟨Blk.cell (t := 44) (cs := #[.slice A0 d.Safe.length c0, .slice A1 d.Loose.length c1]) ?_ 0, Blk.cell (t := 44) (cs := #[.slice A0 d.Safe.length c0, .slice A1 d.Loose.length c1]) ?_ 1⟩ <;> (repeat (first | (with_reducible assumption) | ((with_reducible refine Blk.new' ?_); focus (simp; done)) | (with_reducible refine Blk.alloc ?_ _) | (with_reducible refine Blk.drew ?_) | (with_reducible refine Blk.drewN ?_ _) | ((with_reducible refine Blk.far ?_ ?_ _); rotate_left; focus (first | omega | (simp; done) | (simp; omega))) | (refine Blk.keep ?_ (by with_reducible assumption)) | (refine Blk.below ?_ (by with_reducible assumption) (by (first | omega | (simp; done) | (simp; omega)))))))
      (first | (go_at_call 82; ((with_reducible refine (HJ.out _ _ ?_ ?_).mono ?_); (focus (repeat (first | (with_reducible exact Below.refl _ _) | (with_reducible assumption) | ((with_reducible refine Below.setCell ?_ ?_ _); rotate_left; focus (first | omega | (simp; done) | (simp; omega))) | ((with_reducible refine Below.alloc ?_ ?_ _); rotate_left; focus (first | omega | (simp; done) | (simp; omega))) | (with_reducible refine Below.drew ?_) | (with_reducible refine below_drewN ?_ _) | (refine Below.trans ?_ (Below.mono (by with_reducible assumption) (by (first | omega | (simp; done) | (simp; omega)))))))); (focus (exact Blk.new' (by first | rfl | simp)))); rintro e w2 ⟨A, c, rfl, ho, hb2⟩; have BK2 : Blk w2 w.heap.size 44 #[.slice A0 d.Safe.length c0, .slice A1 d.Loose.length c1] := (by (repeat (first | (with_reducible assumption) | ((with_reducible refine Blk.new' ?_); focus (simp; done)) | (with_reducible refine Blk.alloc ?_ _) | (with_reducible refine Blk.drew ?_) | (with_reducible refine Blk.drewN ?_ _) | ((with_reducible refine Blk.far ?_ ?_ _); rotate_left; focus (first | omega | (simp; done) | (simp; omega))) | (refine Blk.keep ?_ (by with_reducible assumption)) | (refine Blk.below ?_ (by with_reducible assumption) (by (first | omega | (simp; done) | (simp; omega))))))); have BK1b : Blk w2 (w.heap.size + 1) 44 #[.slice none 0 0, .slice none 0 0] := (by (repeat (first | (with_reducible assumption) | ((with_reducible refine Blk.new' ?_); focus (simp; done)) | (with_reducible refine Blk.alloc ?_ _) | (with_reducible refine Blk.drew ?_) | (with_reducible refine Blk.drewN ?_ _) | ((with_reducible refine Blk.far ?_ ?_ _); rotate_left; focus (first | omega | (simp; done) | (simp; omega))) | (refine Blk.keep ?_ (by with_reducible assumption)) | (refine Blk.below ?_ (by with_reducible assumption) (by (first | omega | (simp; done) | (simp; omega))))))); have hcR := BK1b.cell; have hfR := BK1b.frozen; have hz2 := hb2.size; try simp at hz2))
    go_wp2
    refine bodyPost_ret (v := .agg #[.slice A R.length c, .slice none 0 0]) (by simp [results, Try.results45, go_sem, hcR, hfR]) rfl ⟨[.slice A R.length c, .slice none 0 0], rfl, ?_, by (repeat (first | (with_reducible exact Below.refl _ _) | (with_reducible assumption) | ((with_reducible refine Below.setCell ?_ ?_ _); rotate_left; focus (first | omega | (simp; done) | (simp; omega))) | ((with_reducible refine Below.alloc ?_ ?_ _); rotate_left; focus (first | omega | (simp; done) | (simp; omega))) | (with_reducible refine Below.drew ?_) | (with_reducible refine below_drewN ?_ _) | (refine Below.trans ?_ (Below.mono (by with_reducible assumption) (by (first | omega | (simp; done) | (simp; omega)))))))⟩
    replace ho := own_base (base' := w1.heap.size) ho (by first | omega | (simp; done) | (simp; omega))
    rw [HRk.out]
    refine own_safe (base := w1.heap.size) ?_ ?_ ?_
    · (repeat (first | (with_reducible exact ho) | ((with_reducible refine own_setCell ?_ ?_ _); rotate_left; focus (first | omega | (simp; done) | (simp; omega))) | (with_reducible refine World.ownsRow.alloc ?_ _) | (with_reducible refine own_drew ?_) | (with_reducible refine own_drewN ?_ _) | (refine own_below ?_ (by with_reducible assumption))))
    · omega
    · first | exact Nat.le_refl _ | omega | (simp; done) | (simp; omega)
end Go.Proofs.Ytgaenfkjobkmjaa

/- Disks: DiskOk, copies, SyncLog, CrashLog. whole, SyncLog, CrashLog. Rewriting a log, as plain data. AppendLog, both sides. impl.AppendLog. RewriteLog of the program. -/
import Derived.Test.YtndgaakfndokgaaBytes
import Derived.Test.YtndgaakfndokgaaDisk2
import Derived.Lib.MinMax
import Derived.Test.YtndgaakfndokgaaFrameL
import Derived.Test.YtndgaakfndokgaaRecordS2
import Derived.Test.YtndgaakfndokgaaNil
set_option linter.unusedSimpArgs false
set_option linter.unusedVariables false
set_option maxRecDepth 20000
namespace Go.Proofs.Ytndgaakfndokgaa
open Go.RowKit
def Disk.ok (d : Disk) : Bool := decide (d.Safe.length + d.Loose.length ≤ 40000)
theorem len_sz_Disk {d : Disk} {n : Nat} (h : DiskR.sz d ≤ n) : d.Safe.length + d.Loose.length ≤ n := by rw [sz_Disk, sz_ByteS, sz_ByteS] at h; exact h
set_option maxHeartbeats 400000 in
theorem impl_isDisk (cs : List Value) (d : Disk) (w : World) (h : DiskR.Rd w w.heap.size cs d) (hm : DiskR.sz d ≤ 1048576) :
    Calls Try.prog 42 #[.agg cs.toArray] w fun e w' => e = .returned (.bool d.ok) ∧ Below w.heap.size w w' := by
  obtain ⟨v0, v1, rfl, q0, q1⟩ := rd_Disk h
  obtain ⟨A0, c0, rfl⟩ := q0.form
  obtain ⟨A1, c1, rfl⟩ := q1.form
  have hl := len_sz_Disk hm
  have HD : Hid (d.ok = decide (d.Safe.length + d.Loose.length ≤ 40000)) := rfl
  generalize d.Safe.length = n at *
  generalize d.Loose.length = n' at *
  go_enter Try.func42, Try.ntmps42
  go_wp2
  go_ret
  exact ⟨ret_bool (by rw [HD.out]; simp; omega), by (repeat (first | (with_reducible exact Below.refl _ _) | (with_reducible assumption) | ((with_reducible refine Below.setCell ?_ ?_ _); rotate_left; focus (first | omega | (simp; done) | (simp; omega))) | ((with_reducible refine Below.alloc ?_ ?_ _); rotate_left; focus (first | omega | (simp; done) | (simp; omega))) | (with_reducible refine Below.drew ?_) | (with_reducible refine below_drewN ?_ _) | (refine Below.trans ?_ (Below.mono (by with_reducible assumption) (by (first | omega | (simp; done) | (simp; omega)))))))⟩
set_option maxHeartbeats 1600000 in
theorem impl_cloneDisk (cs : List Value) (d : Disk) (w : World) (h : DiskR.Rd w w.heap.size cs d) (hm : DiskR.sz d ≤ 1048576) :
    Calls Try.prog 41 #[.agg cs.toArray] w fun e w' => ∃ cs', e = .returned (.agg cs'.toArray) ∧ DiskR.Own w' (InR w.heap.size w'.heap.size) cs' d ∧ Below w.heap.size w w' := by
  obtain ⟨v0, v1, rfl, q0, q1⟩ := rd_Disk h
  obtain ⟨A0, c0, rfl⟩ := q0.form
  obtain ⟨A1, c1, rfl⟩ := q1.form
  have hl := len_sz_Disk hm
  have H0 := Lib.hid (fun (w' : World) (hb : Below w.heap.size w w') => slices_Clone_byte A0 c0 d.Safe w' ((rd_ByteS q0).2.1.keep hb hb.size) (by omega))
  have H1 := Lib.hid (fun (w' : World) (hb : Below w.heap.size w w') => slices_Clone_byte A1 c1 d.Loose w' ((rd_ByteS q1).2.1.keep hb hb.size) (by omega))
  go_enter Try.func41, Try.ntmps41
  go_wp2
  have BK : Blk ((w.alloc (.cells #[.slice A0 d.Safe.length c0, .slice A1 d.Loose.length c1] 41)).alloc (.cells #[.slice none 0 0, .slice none 0 0] 41)) w.heap.size 41 #[.slice A0 d.Safe.length c0, .slice A1 d.Loose.length c1] := by (repeat (first | (with_reducible assumption) | ((with_reducible refine Blk.new' ?_); focus (simp; done)) | (with_reducible refine Blk.alloc ?_ _) | (with_reducible refine Blk.drew ?_) | (with_reducible refine Blk.drewN ?_ _) | ((with_reducible refine Blk.far ?_ ?_ _); rotate_left; focus (first | omega | (simp; done) | (simp; omega))) | (refine Blk.keep ?_ (by with_reducible assumption)) | (refine Blk.below ?_ (by with_reducible assumption) (by (first | omega | (simp; done) | (simp; omega))))))
  have hbW : Below w.heap.size w ((w.alloc (.cells #[.slice A0 d.Safe.length c0, .slice A1 d.Loose.length c1] 41)).alloc (.cells #[.slice none 0 0, .slice none 0 0] 41)) := by (repeat (first | (with_reducible exact Below.refl _ _) | (with_reducible assumption) | ((with_reducible refine Below.setCell ?_ ?_ _); rotate_left; focus (first | omega | (simp; done) | (simp; omega))) | ((with_reducible refine Below.alloc ?_ ?_ _); rotate_left; focus (first | omega | (simp; done) | (simp; omega))) | (with_reducible refine Below.drew ?_) | (with_reducible refine below_drewN ?_ _) | (refine Below.trans ?_ (Below.mono (by with_reducible assumption) (by (first | omega | (simp; done) | (simp; omega)))))))
  have BR : Blk ((w.alloc (.cells #[.slice A0 d.Safe.length c0, .slice A1 d.Loose.length c1] 41)).alloc (.cells #[.slice none 0 0, .slice none 0 0] 41)) (w.heap.size + 1) 41 #[.slice none 0 0, .slice none 0 0] := Blk.new' (by simp)
  have hzW : w.heap.size + 2 ≤ ((w.alloc (.cells #[.slice A0 d.Safe.length c0, .slice A1 d.Loose.length c1] 41)).alloc (.cells #[.slice none 0 0, .slice none 0 0] 41)).heap.size := by simp
  generalize (w.alloc (.cells #[.slice A0 d.Safe.length c0, .slice A1 d.Loose.length c1] 41)).alloc (.cells #[.slice none 0 0, .slice none 0 0] 41) = W at *
  go_region_held3 (fun w' => w'.cell? ⟨w.heap.size, 0, none⟩ = some (.slice A0 d.Safe.length c0) ∧ w'.cell? ⟨w.heap.size, 1, none⟩ = some (.slice A1 d.Loose.length c1))
    (refine ⟨Blk.cell (t := 41) (cs := #[.slice A0 d.Safe.length c0, .slice A1 d.Loose.length c1]) ?_ 0, Blk.cell (t := 41) (cs := #[.slice A0 d.Safe.length c0, .slice A1 d.Loose.length c1]) ?_ 1⟩ <;> (repeat (first | (with_reducible assumption) | ((with_reducible refine Blk.new' ?_); focus (simp; done)) | (with_reducible refine Blk.alloc ?_ _) | (with_reducible refine Blk.drew ?_) | (with_reducible refine Blk.drewN ?_ _) | ((with_reducible refine Blk.far ?_ ?_ _); rotate_left; focus (first | omega | (simp; done) | (simp; omega))) | (refine Blk.keep ?_ (by with_reducible assumption)) | (refine Blk.below ?_ (by with_reducible assumption) (by (first | omega | (simp; done) | (simp; omega)))))))
    (first
    | (go_at_call 59; ((with_reducible refine (H0.out _ ?_).mono ?_); (focus (repeat (first | (with_reducible exact Below.refl _ _) | (with_reducible assumption) | ((with_reducible refine Below.setCell ?_ ?_ _); rotate_left; focus (first | omega | (simp; done) | (simp; omega))) | ((with_reducible refine Below.alloc ?_ ?_ _); rotate_left; focus (first | omega | (simp; done) | (simp; omega))) | (with_reducible refine Below.drew ?_) | (with_reducible refine below_drewN ?_ _) | (refine Below.trans ?_ (Below.mono (by with_reducible assumption) (by (first | omega | (simp; done) | (simp; omega))))))))); rintro e wA ⟨D0, d0, rfl, ho0, hbA⟩; have BKa : Blk wA w.heap.size 41 #[.slice A0 d.Safe.length c0, .slice A1 d.Loose.length c1] := (by (repeat (first | (with_reducible assumption) | ((with_reducible refine Blk.new' ?_); focus (simp; done)) | (with_reducible refine Blk.alloc ?_ _) | (with_reducible refine Blk.drew ?_) | (with_reducible refine Blk.drewN ?_ _) | ((with_reducible refine Blk.far ?_ ?_ _); rotate_left; focus (first | omega | (simp; done) | (simp; omega))) | (refine Blk.keep ?_ (by with_reducible assumption)) | (refine Blk.below ?_ (by with_reducible assumption) (by (first | omega | (simp; done) | (simp; omega))))))); have BRa : Blk wA (w.heap.size + 1) 41 #[.slice none 0 0, .slice none 0 0] := (by (repeat (first | (with_reducible assumption) | ((with_reducible refine Blk.new' ?_); focus (simp; done)) | (with_reducible refine Blk.alloc ?_ _) | (with_reducible refine Blk.drew ?_) | (with_reducible refine Blk.drewN ?_ _) | ((with_reducible refine Blk.far ?_ ?_ _); rotate_left; focus (first | omega | (simp; done) | (simp; omega))) | (refine Blk.keep ?_ (by with_reducible assumption)) | (refine Blk.below ?_ (by with_reducible assumption) (by (first | omega | (simp; done) | (simp; omega))))))); have hzA := hbA.size; (try simp at hzA); have hcA := BRa.cell; have hfA := BRa.frozen)
    | (go_at_call 59; ((with_reducible refine (H1.out _ ?_).mono ?_); (focus (repeat (first | (with_reducible exact Below.refl _ _) | (with_reducible assumption) | ((with_reducible refine Below.setCell ?_ ?_ _); rotate_left; focus (first | omega | (simp; done) | (simp; omega))) | ((with_reducible refine Below.alloc ?_ ?_ _); rotate_left; focus (first | omega | (simp; done) | (simp; omega))) | (with_reducible refine Below.drew ?_) | (with_reducible refine below_drewN ?_ _) | (refine Below.trans ?_ (Below.mono (by with_reducible assumption) (by (first | omega | (simp; done) | (simp; omega))))))))); rintro e wB ⟨D1, d1, rfl, ho1, hbB⟩; have BKb : Blk wB w.heap.size 41 #[.slice A0 d.Safe.length c0, .slice A1 d.Loose.length c1] := (by (repeat (first | (with_reducible assumption) | ((with_reducible refine Blk.new' ?_); focus (simp; done)) | (with_reducible refine Blk.alloc ?_ _) | (with_reducible refine Blk.drew ?_) | (with_reducible refine Blk.drewN ?_ _) | ((with_reducible refine Blk.far ?_ ?_ _); rotate_left; focus (first | omega | (simp; done) | (simp; omega))) | (refine Blk.keep ?_ (by with_reducible assumption)) | (refine Blk.below ?_ (by with_reducible assumption) (by (first | omega | (simp; done) | (simp; omega))))))); have BRb : Blk wB (w.heap.size + 1) 41 #[.slice none 0 0, .slice none 0 0] := (by (repeat (first | (with_reducible assumption) | ((with_reducible refine Blk.new' ?_); focus (simp; done)) | (with_reducible refine Blk.alloc ?_ _) | (with_reducible refine Blk.drew ?_) | (with_reducible refine Blk.drewN ?_ _) | ((with_reducible refine Blk.far ?_ ?_ _); rotate_left; focus (first | omega | (simp; done) | (simp; omega))) | (refine Blk.keep ?_ (by with_reducible assumption)) | (refine Blk.below ?_ (by with_reducible assumption) (by (first | omega | (simp; done) | (simp; omega))))))); have hzB := hbB.size; (try simp at hzB); have hcB := BRb.cell; have hfB := BRb.frozen))
  all_goals
    go_wp2
    refine bodyPost_ret (v := .agg #[.slice D0 d.Safe.length d0, .slice D1 d.Loose.length d1]) (by simp [results, Try.results41, go_sem, hcA, hfA, hcB, hfB]) rfl ⟨[.slice D0 d.Safe.length d0, .slice D1 d.Loose.length d1], rfl, ?_, by (repeat (first | (with_reducible exact Below.refl _ _) | (with_reducible assumption) | ((with_reducible refine Below.setCell ?_ ?_ _); rotate_left; focus (first | omega | (simp; done) | (simp; omega))) | ((with_reducible refine Below.alloc ?_ ?_ _); rotate_left; focus (first | omega | (simp; done) | (simp; omega))) | (with_reducible refine Below.drew ?_) | (with_reducible refine below_drewN ?_ _) | (refine Below.trans ?_ (Below.mono (by with_reducible assumption) (by (first | omega | (simp; done) | (simp; omega)))))))⟩
    have e1 : W.drew.heap.size = W.heap.size := rfl
    have p0 := fun g hg => ho0.lt g hg
    have p1 := fun g hg => ho1.lt g hg
    replace ho0 := own_base (base' := W.heap.size) ho0 (by omega)
    replace ho1 := own_base (base' := W.heap.size) ho1 (by omega)
    refine of_own_Disk (S0 := fun g => (Value.slice D0 d.Safe.length d0).ownBlock = some g) (S1 := fun g => (Value.slice D1 d.Loose.length d1).ownBlock = some g) (of_own_ByteS (base := W.heap.size) (by (repeat (first | (with_reducible exact ho0) | ((with_reducible refine own_setCell ?_ ?_ _); rotate_left; focus (first | omega | (simp; done) | (simp; omega))) | (with_reducible refine World.ownsRow.alloc ?_ _) | (with_reducible refine own_drew ?_) | (with_reducible refine own_drewN ?_ _) | (refine own_below ?_ (by with_reducible assumption)))))) (of_own_ByteS (base := W.heap.size) (by (repeat (first | (with_reducible exact ho1) | ((with_reducible refine own_setCell ?_ ?_ _); rotate_left; focus (first | omega | (simp; done) | (simp; omega))) | (with_reducible refine World.ownsRow.alloc ?_ _) | (with_reducible refine own_drew ?_) | (with_reducible refine own_drewN ?_ _) | (refine own_below ?_ (by with_reducible assumption)))))) ?_ ?_ ?_
    · intro g hg; have := p0 g hg; exact ⟨by omega, by first | omega | (simp; omega)⟩
    · intro g hg; have := p1 g hg; exact ⟨by omega, by first | omega | (simp; omega)⟩
    · intro g hg hg'; have h1 := p0 g hg; have h2 := p1 g hg'; omega
end Go.Proofs.Ytndgaakfndokgaa
namespace Go.Proofs.Ytndgaakfndokgaa
open Go.RowKit
def syncLog (d : Disk) : Disk := match d.ok with | true => ⟨d.Safe ++ d.Loose, []⟩ | false => d
def kept (k : Int) (n : Nat) : Nat := if k < 0 then 0 else if (n : Int) < k then n else k.toNat
theorem kept_le (k : Int) (n : Nat) : kept k n ≤ n := by unfold kept; split <;> (try split) <;> omega
def crashLog (d : Disk) (k : Int) : Disk := match d.ok with | true => ⟨d.Safe ++ d.Loose.take (kept k d.Loose.length), []⟩ | false => d
theorem syncLog_ok {d : Disk} (h : d.ok = true) : syncLog d = ⟨d.Safe ++ d.Loose, []⟩ := by unfold syncLog; rw [h]
theorem syncLog_no {d : Disk} (h : d.ok = false) : syncLog d = d := by unfold syncLog; rw [h]
theorem crashLog_ok {d : Disk} {k : Int} (h : d.ok = true) : crashLog d k = ⟨d.Safe ++ d.Loose.take (kept k d.Loose.length), []⟩ := by unfold crashLog; rw [h]
theorem crashLog_no {d : Disk} {k : Int} (h : d.ok = false) : crashLog d k = d := by unfold crashLog; rw [h]
theorem syncLog_sz (d : Disk) : DiskR.sz (syncLog d) = DiskR.sz d := by
  cases h : d.ok
  · rw [syncLog_no h]
  · rw [syncLog_ok h, sz_Disk, sz_Disk]; simp only [sz_ByteS, List.length_append, List.length_nil]; omega
theorem crashLog_sz (d : Disk) (k : Int) : DiskR.sz (crashLog d k) ≤ DiskR.sz d := by
  cases h : d.ok
  · rw [crashLog_no h]; exact Nat.le_refl _
  · have := kept_le k d.Loose.length
    rw [crashLog_ok h, sz_Disk, sz_Disk]; simp only [sz_ByteS, List.length_append, List.length_nil, List.length_take]; omega
theorem SlOwn.nilB {w : World} {c : Nat} (hc : c ≤ 9223372036854775807) : SlOwn byteR 5 w (fun _ => False) (.slice none 0 c) [] :=
  SlOwn.of_rows (f := fun x => [byteV x]) (xs := []) (Rows.nil) (Nat.zero_le _) hc (fun _ _ => trivial)
/-- A disk whose safe part alone is a row of its own. -/
theorem own_safe {w : World} {base lo hi : Nat} {A : Option Addr} {c : Nat} {xs : List UInt8} (h : w.ownsRow base 5 1 (.slice A xs.length c) xs.length (xs.map byteV)) (h1 : lo ≤ base) (h2 : w.heap.size ≤ hi) :
    DiskR.Own w (InR lo hi) [.slice A xs.length c, .slice none 0 0] ⟨xs, []⟩ :=
  of_own_Disk (x := ⟨xs, []⟩) (of_own_ByteS h) (SlOwn.nilB (by omega)) (fun g hg => by have := h.lt g hg; exact ⟨by omega, by omega⟩) (fun g hg => hg.elim) (fun g _ hg => hg)
set_option maxHeartbeats 800000 in
theorem impl_whole (cs : List Value) (d : Disk) (w : World) (h : DiskR.Rd w w.heap.size cs d) (hm : DiskR.sz d ≤ 1048576) :
    Calls Try.prog 43 #[.agg cs.toArray] w fun e w' => ∃ A c, e = .returned (.slice A (d.Safe ++ d.Loose).length c) ∧ w'.ownsRow w.heap.size 5 1 (.slice A (d.Safe ++ d.Loose).length c) (d.Safe ++ d.Loose).length ((d.Safe ++ d.Loose).map byteV) ∧ Below w.heap.size w w' := by
  obtain ⟨v0, v1, rfl, q0, q1⟩ := rd_Disk h
  obtain ⟨A0, c0, rfl⟩ := q0.form
  obtain ⟨A1, c1, rfl⟩ := q1.form
  have hl := len_sz_Disk hm
  have hp : pieces [(A0, c0, d.Safe), (A1, c1, d.Loose)] = d.Safe ++ d.Loose := by simp [pieces]
  go_enter Try.func43, Try.ntmps43
  go_wp2_with fail
  refine (slices_Concat_byte (some ⟨w.heap.size + 1, 0, none⟩) 2 [(A0, c0, d.Safe), (A1, c1, d.Loose)] _ ?_ ?_ (by simp) (by rw [hp, List.length_append]; omega)).mono ?_
  · exact (Reads.of_blk (Blk.new' (by simp))).more (by simp)
  · intro r hr
    simp only [List.mem_cons, List.not_mem_nil, or_false] at hr
    rcases hr with rfl | rfl
    · exact ((rd_ByteS q0).2.1.keep (by (repeat (first | (with_reducible exact Below.refl _ _) | (with_reducible assumption) | ((with_reducible refine Below.setCell ?_ ?_ _); rotate_left; focus (first | omega | (simp; done) | (simp; omega))) | ((with_reducible refine Below.alloc ?_ ?_ _); rotate_left; focus (first | omega | (simp; done) | (simp; omega))) | (with_reducible refine Below.drew ?_) | (with_reducible refine below_drewN ?_ _) | (refine Below.trans ?_ (Below.mono (by with_reducible assumption) (by (first | omega | (simp; done) | (simp; omega)))))))) (by simp; try omega))
    · exact ((rd_ByteS q1).2.1.keep (by (repeat (first | (with_reducible exact Below.refl _ _) | (with_reducible assumption) | ((with_reducible refine Below.setCell ?_ ?_ _); rotate_left; focus (first | omega | (simp; done) | (simp; omega))) | ((with_reducible refine Below.alloc ?_ ?_ _); rotate_left; focus (first | omega | (simp; done) | (simp; omega))) | (with_reducible refine Below.drew ?_) | (with_reducible refine below_drewN ?_ _) | (refine Below.trans ?_ (Below.mono (by with_reducible assumption) (by (first | omega | (simp; done) | (simp; omega)))))))) (by simp; try omega))
  · rintro e w1 ⟨A, c, rfl, ho, hb⟩
    rw [hp] at ho ⊢
    go_wp2
    go_ret
    exact ⟨A, c, by rw [List.length_append]; rfl, own_base ho (by simp; try omega), by (repeat (first | (with_reducible exact Below.refl _ _) | (with_reducible assumption) | ((with_reducible refine Below.setCell ?_ ?_ _); rotate_left; focus (first | omega | (simp; done) | (simp; omega))) | ((with_reducible refine Below.alloc ?_ ?_ _); rotate_left; focus (first | omega | (simp; done) | (simp; omega))) | (with_reducible refine Below.drew ?_) | (with_reducible refine below_drewN ?_ _) | (refine Below.trans ?_ (Below.mono (by with_reducible assumption) (by (first | omega | (simp; done) | (simp; omega)))))))⟩
set_option maxHeartbeats 800000 in
theorem impl_SyncLog (cs : List Value) (d : Disk) (w : World) (h : DiskR.Rd w w.heap.size cs d) (hm : DiskR.sz d ≤ 1048576) :
    Calls Try.prog 20 #[.agg cs.toArray] w fun e w' => ∃ cs', e = .returned (.agg cs'.toArray) ∧ DiskR.Own w' (InR w.heap.size w'.heap.size) cs' (syncLog d) ∧ Below w.heap.size w w' := by
  obtain ⟨v0, v1, rfl, q0, q1⟩ := rd_Disk h
  obtain ⟨A0, c0, rfl⟩ := q0.form
  obtain ⟨A1, c1, rfl⟩ := q1.form
  have hl := len_sz_Disk hm
  have r0 := (rd_ByteS q0).2.1
  have r1 := (rd_ByteS q1).2.1
  cases hok : d.ok
  · rw [syncLog_no hok]
    have Hok := Lib.hid hok
    clear hok
    go_enter Try.func20, Try.ntmps20
    go_wp2_with fail
    refine (impl_isDisk _ d _ (DiskR.rd_keep h (by (repeat (first | (with_reducible exact Below.refl _ _) | (with_reducible assumption) | ((with_reducible refine Below.setCell ?_ ?_ _); rotate_left; focus (first | omega | (simp; done) | (simp; omega))) | ((with_reducible refine Below.alloc ?_ ?_ _); rotate_left; focus (first | omega | (simp; done) | (simp; omega))) | (with_reducible refine Below.drew ?_) | (with_reducible refine below_drewN ?_ _) | (refine Below.trans ?_ (Below.mono (by with_reducible assumption) (by (first | omega | (simp; done) | (simp; omega)))))))) (by first | omega | (simp; done) | (simp; omega))) hm).mono ?_
    rintro e w1 ⟨rfl, hb1⟩
    rw [Hok.out]
    have hz1 := hb1.size; try simp at hz1
    have BK0 := (by (repeat (first | (with_reducible assumption) | ((with_reducible refine Blk.new' ?_); focus (simp; done)) | (with_reducible refine Blk.alloc ?_ _) | (with_reducible refine Blk.drew ?_) | (with_reducible refine Blk.drewN ?_ _) | ((with_reducible refine Blk.far ?_ ?_ _); rotate_left; focus (first | omega | (simp; done) | (simp; omega))) | (refine Blk.keep ?_ (by with_reducible assumption)) | (refine Blk.below ?_ (by with_reducible assumption) (by (first | omega | (simp; done) | (simp; omega)))))) : Blk w1 w.heap.size 41 #[.slice A0 d.Safe.length c0, .slice A1 d.Loose.length c1]); have hc0 := BK0.cell; have hf0 := BK0.frozen
    have BK1 := ((Blk.new' (by simp)).keep hb1 : Blk w1 (w.heap.size + 1) 41 #[.slice none 0 0, .slice none 0 0]); have hc1 := BK1.cell; have hf1 := BK1.frozen
    go_wp2_with fail
    refine (impl_cloneDisk _ d _ (DiskR.rd_keep h (by (repeat (first | (with_reducible exact Below.refl _ _) | (with_reducible assumption) | ((with_reducible refine Below.setCell ?_ ?_ _); rotate_left; focus (first | omega | (simp; done) | (simp; omega))) | ((with_reducible refine Below.alloc ?_ ?_ _); rotate_left; focus (first | omega | (simp; done) | (simp; omega))) | (with_reducible refine Below.drew ?_) | (with_reducible refine below_drewN ?_ _) | (refine Below.trans ?_ (Below.mono (by with_reducible assumption) (by (first | omega | (simp; done) | (simp; omega)))))))) (by first | omega | (simp; done) | (simp; omega))) hm).mono ?_
    rintro e w2 ⟨cs', rfl, ho, hb2⟩
    have hz2 := hb2.size; try simp at hz2
    replace BK1 := BK1.keep hb2; replace hc1 := BK1.cell; replace hf1 := BK1.frozen
    obtain ⟨_, _, _, _, rfl, p0, p1, -⟩ := own_Disk ho
    obtain ⟨D0, d0, rfl⟩ := p0.form
    obtain ⟨D1, d1, rfl⟩ := p1.form
    go_wp2
    refine bodyPost_ret (v := .agg #[.slice D0 d.Safe.length d0, .slice D1 d.Loose.length d1]) (by simp [results, Try.results20, go_sem, hc1, hf1]) rfl ⟨[.slice D0 d.Safe.length d0, .slice D1 d.Loose.length d1], rfl, ?_, by (repeat (first | (with_reducible exact Below.refl _ _) | (with_reducible assumption) | ((with_reducible refine Below.setCell ?_ ?_ _); rotate_left; focus (first | omega | (simp; done) | (simp; omega))) | ((with_reducible refine Below.alloc ?_ ?_ _); rotate_left; focus (first | omega | (simp; done) | (simp; omega))) | (with_reducible refine Below.drew ?_) | (with_reducible refine below_drewN ?_ _) | (refine Below.trans ?_ (Below.mono (by with_reducible assumption) (by (first | omega | (simp; done) | (simp; omega)))))))⟩
    exact DiskR.own_wide (DiskR.own_off ho (by (repeat (first | (with_reducible exact Out.refl _ _) | (with_reducible assumption) | ((with_reducible refine Out.setCell ?_ ?_ _); rotate_left; focus (first | (refine Or.inl ?_; (first | omega | (simp; done) | (simp; omega))) | (refine Or.inr ?_; (first | omega | (simp; done) | (simp; omega))))) | (with_reducible refine Out.alloc ?_ _) | (with_reducible refine Out.drew ?_) | (with_reducible refine Out.drewN ?_ _) | (refine Out.step ?_ (by with_reducible assumption)))))) (inR_mono (by first | omega | (simp; done) | (simp; omega)) (by first | omega | (simp; done) | (simp; omega)))
  · rw [syncLog_ok hok]
    have Hok := Lib.hid hok
    clear hok
    go_enter Try.func20, Try.ntmps20
    go_wp2_with fail
    refine (impl_isDisk _ d _ (DiskR.rd_keep h (by (repeat (first | (with_reducible exact Below.refl _ _) | (with_reducible assumption) | ((with_reducible refine Below.setCell ?_ ?_ _); rotate_left; focus (first | omega | (simp; done) | (simp; omega))) | ((with_reducible refine Below.alloc ?_ ?_ _); rotate_left; focus (first | omega | (simp; done) | (simp; omega))) | (with_reducible refine Below.drew ?_) | (with_reducible refine below_drewN ?_ _) | (refine Below.trans ?_ (Below.mono (by with_reducible assumption) (by (first | omega | (simp; done) | (simp; omega)))))))) (by first | omega | (simp; done) | (simp; omega))) hm).mono ?_
    rintro e w1 ⟨rfl, hb1⟩
    rw [Hok.out]
    have hz1 := hb1.size; try simp at hz1
    have BK0 := (by (repeat (first | (with_reducible assumption) | ((with_reducible refine Blk.new' ?_); focus (simp; done)) | (with_reducible refine Blk.alloc ?_ _) | (with_reducible refine Blk.drew ?_) | (with_reducible refine Blk.drewN ?_ _) | ((with_reducible refine Blk.far ?_ ?_ _); rotate_left; focus (first | omega | (simp; done) | (simp; omega))) | (refine Blk.keep ?_ (by with_reducible assumption)) | (refine Blk.below ?_ (by with_reducible assumption) (by (first | omega | (simp; done) | (simp; omega)))))) : Blk w1 w.heap.size 41 #[.slice A0 d.Safe.length c0, .slice A1 d.Loose.length c1]); have hc0 := BK0.cell; have hf0 := BK0.frozen
    have BK1 := ((Blk.new' (by simp)).keep hb1 : Blk w1 (w.heap.size + 1) 41 #[.slice none 0 0, .slice none 0 0]); have hc1 := BK1.cell; have hf1 := BK1.frozen
    go_wp2_with fail
    refine (impl_whole _ d _ (DiskR.rd_keep h (by (repeat (first | (with_reducible exact Below.refl _ _) | (with_reducible assumption) | ((with_reducible refine Below.setCell ?_ ?_ _); rotate_left; focus (first | omega | (simp; done) | (simp; omega))) | ((with_reducible refine Below.alloc ?_ ?_ _); rotate_left; focus (first | omega | (simp; done) | (simp; omega))) | (with_reducible refine Below.drew ?_) | (with_reducible refine below_drewN ?_ _) | (refine Below.trans ?_ (Below.mono (by with_reducible assumption) (by (first | omega | (simp; done) | (simp; omega)))))))) (by first | omega | (simp; done) | (simp; omega))) hm).mono ?_
    rintro e w2 ⟨A, c, rfl, ho, hb2⟩
    have hz2 := hb2.size; try simp at hz2
    replace BK1 := BK1.keep hb2; replace hc1 := BK1.cell; replace hf1 := BK1.frozen
    go_wp2
    refine bodyPost_ret (v := .agg #[.slice A (d.Safe ++ d.Loose).length c, .slice none 0 0]) (by simp [results, Try.results20, go_sem, hc1, hf1]) rfl ⟨[.slice A (d.Safe ++ d.Loose).length c, .slice none 0 0], rfl, ?_, by (repeat (first | (with_reducible exact Below.refl _ _) | (with_reducible assumption) | ((with_reducible refine Below.setCell ?_ ?_ _); rotate_left; focus (first | omega | (simp; done) | (simp; omega))) | ((with_reducible refine Below.alloc ?_ ?_ _); rotate_left; focus (first | omega | (simp; done) | (simp; omega))) | (with_reducible refine Below.drew ?_) | (with_reducible refine below_drewN ?_ _) | (refine Below.trans ?_ (Below.mono (by with_reducible assumption) (by (first | omega | (simp; done) | (simp; omega)))))))⟩
    refine own_safe (base := w1.heap.size) ?_ ?_ ?_
    · (repeat (first | (with_reducible exact ho) | ((with_reducible refine own_setCell ?_ ?_ _); rotate_left; focus (first | omega | (simp; done) | (simp; omega))) | (with_reducible refine World.ownsRow.alloc ?_ _) | (with_reducible refine own_drew ?_) | (with_reducible refine own_drewN ?_ _) | (refine own_below ?_ (by with_reducible assumption))))
    · omega
    · first | exact Nat.le_refl _ | omega | (simp; done) | (simp; omega)
set_option maxHeartbeats 800000 in
theorem impl_CrashLog (cs : List Value) (d : Disk) (k : Int) (w : World) (h : DiskR.Rd w w.heap.size cs d) (hm : DiskR.sz d ≤ 1048576) :
    Calls Try.prog 22 #[.agg cs.toArray, .int .i64 k] w fun e w' => ∃ cs', e = .returned (.agg cs'.toArray) ∧ DiskR.Own w' (InR w.heap.size w'.heap.size) cs' (crashLog d k) ∧ Below w.heap.size w w' := by
  obtain ⟨v0, v1, rfl, q0, q1⟩ := rd_Disk h
  obtain ⟨A0, c0, rfl⟩ := q0.form
  obtain ⟨A1, c1, rfl⟩ := q1.form
  have hl := len_sz_Disk hm
  have r0 := (rd_ByteS q0).2.1
  have r1 := (rd_ByteS q1).2.1
  cases hok : d.ok
  · rw [crashLog_no hok]
    have Hok := Lib.hid hok
    clear hok
    go_enter Try.func22, Try.ntmps22
    go_wp2_with fail
    refine (impl_isDisk _ d _ (DiskR.rd_keep h (by (repeat (first | (with_reducible exact Below.refl _ _) | (with_reducible assumption) | ((with_reducible refine Below.setCell ?_ ?_ _); rotate_left; focus (first | omega | (simp; done) | (simp; omega))) | ((with_reducible refine Below.alloc ?_ ?_ _); rotate_left; focus (first | omega | (simp; done) | (simp; omega))) | (with_reducible refine Below.drew ?_) | (with_reducible refine below_drewN ?_ _) | (refine Below.trans ?_ (Below.mono (by with_reducible assumption) (by (first | omega | (simp; done) | (simp; omega)))))))) (by first | omega | (simp; done) | (simp; omega))) hm).mono ?_
    rintro e w1 ⟨rfl, hb1⟩
    rw [Hok.out]
    have hz1 := hb1.size; try simp at hz1
    have BK0 := (by (repeat (first | (with_reducible assumption) | ((with_reducible refine Blk.new' ?_); focus (simp; done)) | (with_reducible refine Blk.alloc ?_ _) | (with_reducible refine Blk.drew ?_) | (with_reducible refine Blk.drewN ?_ _) | ((with_reducible refine Blk.far ?_ ?_ _); rotate_left; focus (first | omega | (simp; done) | (simp; omega))) | (refine Blk.keep ?_ (by with_reducible assumption)) | (refine Blk.below ?_ (by with_reducible assumption) (by (first | omega | (simp; done) | (simp; omega)))))) : Blk w1 w.heap.size 41 #[.slice A0 d.Safe.length c0, .slice A1 d.Loose.length c1]); have hc0 := BK0.cell; have hf0 := BK0.frozen
    have BK1 := ((Blk.new' (by simp)).keep hb1 : Blk w1 (w.heap.size + 1) 41 #[.slice none 0 0, .slice none 0 0]); have hc1 := BK1.cell; have hf1 := BK1.frozen
    go_wp2_with fail
    refine (impl_cloneDisk _ d _ (DiskR.rd_keep h (by (repeat (first | (with_reducible exact Below.refl _ _) | (with_reducible assumption) | ((with_reducible refine Below.setCell ?_ ?_ _); rotate_left; focus (first | omega | (simp; done) | (simp; omega))) | ((with_reducible refine Below.alloc ?_ ?_ _); rotate_left; focus (first | omega | (simp; done) | (simp; omega))) | (with_reducible refine Below.drew ?_) | (with_reducible refine below_drewN ?_ _) | (refine Below.trans ?_ (Below.mono (by with_reducible assumption) (by (first | omega | (simp; done) | (simp; omega)))))))) (by first | omega | (simp; done) | (simp; omega))) hm).mono ?_
    rintro e w2 ⟨cs', rfl, ho, hb2⟩
    have hz2 := hb2.size; try simp at hz2
    replace BK1 := BK1.keep hb2; replace hc1 := BK1.cell; replace hf1 := BK1.frozen
    obtain ⟨_, _, _, _, rfl, p0, p1, -⟩ := own_Disk ho
    obtain ⟨D0, d0, rfl⟩ := p0.form
    obtain ⟨D1, d1, rfl⟩ := p1.form
    go_wp2
    refine bodyPost_ret (v := .agg #[.slice D0 d.Safe.length d0, .slice D1 d.Loose.length d1]) (by simp [results, Try.results22, go_sem, hc1, hf1]) rfl ⟨[.slice D0 d.Safe.length d0, .slice D1 d.Loose.length d1], rfl, ?_, by (repeat (first | (with_reducible exact Below.refl _ _) | (with_reducible assumption) | ((with_reducible refine Below.setCell ?_ ?_ _); rotate_left; focus (first | omega | (simp; done) | (simp; omega))) | ((with_reducible refine Below.alloc ?_ ?_ _); rotate_left; focus (first | omega | (simp; done) | (simp; omega))) | (with_reducible refine Below.drew ?_) | (with_reducible refine below_drewN ?_ _) | (refine Below.trans ?_ (Below.mono (by with_reducible assumption) (by (first | omega | (simp; done) | (simp; omega)))))))⟩
    exact DiskR.own_wide (DiskR.own_off ho (by (repeat (first | (with_reducible exact Out.refl _ _) | (with_reducible assumption) | ((with_reducible refine Out.setCell ?_ ?_ _); rotate_left; focus (first | (refine Or.inl ?_; (first | omega | (simp; done) | (simp; omega))) | (refine Or.inr ?_; (first | omega | (simp; done) | (simp; omega))))) | (with_reducible refine Out.alloc ?_ _) | (with_reducible refine Out.drew ?_) | (with_reducible refine Out.drewN ?_ _) | (refine Out.step ?_ (by with_reducible assumption)))))) (inR_mono (by first | omega | (simp; done) | (simp; omega)) (by first | omega | (simp; done) | (simp; omega)))
  · rw [crashLog_ok hok]
    have Hok := Lib.hid hok
    clear hok
    go_enter Try.func22, Try.ntmps22
    go_wp2_with fail
    refine (impl_isDisk _ d _ (DiskR.rd_keep h (by (repeat (first | (with_reducible exact Below.refl _ _) | (with_reducible assumption) | ((with_reducible refine Below.setCell ?_ ?_ _); rotate_left; focus (first | omega | (simp; done) | (simp; omega))) | ((with_reducible refine Below.alloc ?_ ?_ _); rotate_left; focus (first | omega | (simp; done) | (simp; omega))) | (with_reducible refine Below.drew ?_) | (with_reducible refine below_drewN ?_ _) | (refine Below.trans ?_ (Below.mono (by with_reducible assumption) (by (first | omega | (simp; done) | (simp; omega)))))))) (by first | omega | (simp; done) | (simp; omega))) hm).mono ?_
    rintro e w1 ⟨rfl, hb1⟩
    rw [Hok.out]
    have hz1 := hb1.size; try simp at hz1
    have BK0 := (by (repeat (first | (with_reducible assumption) | ((with_reducible refine Blk.new' ?_); focus (simp; done)) | (with_reducible refine Blk.alloc ?_ _) | (with_reducible refine Blk.drew ?_) | (with_reducible refine Blk.drewN ?_ _) | ((with_reducible refine Blk.far ?_ ?_ _); rotate_left; focus (first | omega | (simp; done) | (simp; omega))) | (refine Blk.keep ?_ (by with_reducible assumption)) | (refine Blk.below ?_ (by with_reducible assumption) (by (first | omega | (simp; done) | (simp; omega)))))) : Blk w1 w.heap.size 41 #[.slice A0 d.Safe.length c0, .slice A1 d.Loose.length c1]); have hc0 := BK0.cell; have hf0 := BK0.frozen
    have BK1 := ((Blk.new' (by simp)).keep hb1 : Blk w1 (w.heap.size + 1) 41 #[.slice none 0 0, .slice none 0 0]); have hc1 := BK1.cell; have hf1 := BK1.frozen
    have hkl := kept_le k d.Loose.length
    have hA1 : Reads w w.heap.size A1 ((d.Loose.take (kept k d.Loose.length)).map byteV) := by
      have h := r1
      rw [← List.take_append_drop (kept k d.Loose.length) d.Loose, List.map_append] at h
      exact h.prefix_
    have hlt2 : (d.Loose.take (kept k d.Loose.length)).length = kept k d.Loose.length := by rw [List.length_take]; omega
    have hcap := (rd_ByteS q1).2.2.1
    have hcap2 := (rd_ByteS q1).2.2.2
    have hcap0 := (rd_ByteS q0).2.2.2
    have hp : pieces [(A0, c0, d.Safe), (A1, c1, d.Loose.take (kept k d.Loose.length))] = d.Safe ++ d.Loose.take (kept k d.Loose.length) := by simp [pieces]
    have HJ : Hid (∀ (w' : World) (g : Nat), Below w.heap.size w w' → Blk w' g 22 #[.slice A0 d.Safe.length c0, .slice A1 (kept k d.Loose.length) c1] → Calls Try.prog 44 #[.slice (some ⟨g, 0, none⟩) 2 2] w' fun e w'' => ∃ A2 c2, e = .returned (.slice A2 (d.Safe ++ d.Loose.take (kept k d.Loose.length)).length c2) ∧ w''.ownsRow w'.heap.size 5 1 (.slice A2 (d.Safe ++ d.Loose.take (kept k d.Loose.length)).length c2) (d.Safe ++ d.Loose.take (kept k d.Loose.length)).length ((d.Safe ++ d.Loose.take (kept k d.Loose.length)).map byteV) ∧ Below w'.heap.size w' w'') := Lib.hid (by
      intro w' g hb hbl
      have hJ := slices_Concat_byte (some ⟨g, 0, none⟩) 2 [(A0, c0, d.Safe), (A1, c1, d.Loose.take (kept k d.Loose.length))] w' (by have := Reads.of_blk hbl; simpa [Piece.val, hlt2] using this) (by
        intro r hr
        simp only [List.mem_cons, List.not_mem_nil, or_false] at hr
        rcases hr with rfl | rfl
        · exact r0.keep hb hb.size
        · exact hA1.keep hb hb.size) (by simp) (by rw [hp, List.length_append]; omega)
      rw [hp] at hJ
      exact hJ)
    have HMM : max 0 (min k (d.Loose.length : Int)) = ((kept k d.Loose.length : Nat) : Int) := by unfold kept; split <;> (try split) <;> omega
    generalize hK : kept k d.Loose.length = K at *
    have HK := Lib.hid hK
    clear hA1 hlt2 hK hp
    generalize hR : d.Safe ++ d.Loose.take K = R at *
    have HRk : Hid (d.Safe ++ d.Loose.take (kept k d.Loose.length) = R) := Lib.hid (by rw [HK.out]; exact hR)
    clear hR HK
    have hI1 : (0 : Int) ≤ (K : Int) := by omega
    have hI2 : (K : Int) ≤ (c1 : Int) := by omega
    go_wp2
    go_region_held3 (fun w' => w'.cell? ⟨w.heap.size, 0, none⟩ = some (.slice A0 d.Safe.length c0) ∧ w'.cell? ⟨w.heap.size, 1, none⟩ = some (.slice A1 d.Loose.length c1))
      (refine ⟨Blk.cell (t := 41) (cs := #[.slice A0 d.Safe.length c0, .slice A1 d.Loose.length c1]) ?_ 0, Blk.cell (t := 41) (cs := #[.slice A0 d.Safe.length c0, .slice A1 d.Loose.length c1]) ?_ 1⟩ <;> (repeat (first | (with_reducible assumption) | ((with_reducible refine Blk.new' ?_); focus (simp; done)) | (with_reducible refine Blk.alloc ?_ _) | (with_reducible refine Blk.drew ?_) | (with_reducible refine Blk.drewN ?_ _) | ((with_reducible refine Blk.far ?_ ?_ _); rotate_left; focus (first | omega | (simp; done) | (simp; omega))) | (refine Blk.keep ?_ (by with_reducible assumption)) | (refine Blk.below ?_ (by with_reducible assumption) (by (first | omega | (simp; done) | (simp; omega)))))))
      (first | (go_at_call 44; ((with_reducible refine (HJ.out _ _ ?_ ?_).mono ?_); (focus (repeat (first | (with_reducible exact Below.refl _ _) | (with_reducible assumption) | ((with_reducible refine Below.setCell ?_ ?_ _); rotate_left; focus (first | omega | (simp; done) | (simp; omega))) | ((with_reducible refine Below.alloc ?_ ?_ _); rotate_left; focus (first | omega | (simp; done) | (simp; omega))) | (with_reducible refine Below.drew ?_) | (with_reducible refine below_drewN ?_ _) | (refine Below.trans ?_ (Below.mono (by with_reducible assumption) (by (first | omega | (simp; done) | (simp; omega)))))))); (focus (exact Blk.new' (by first | rfl | simp)))); rintro e w2 ⟨A, c, rfl, ho, hb2⟩; have BK2 : Blk w2 w.heap.size 41 #[.slice A0 d.Safe.length c0, .slice A1 d.Loose.length c1] := (by (repeat (first | (with_reducible assumption) | ((with_reducible refine Blk.new' ?_); focus (simp; done)) | (with_reducible refine Blk.alloc ?_ _) | (with_reducible refine Blk.drew ?_) | (with_reducible refine Blk.drewN ?_ _) | ((with_reducible refine Blk.far ?_ ?_ _); rotate_left; focus (first | omega | (simp; done) | (simp; omega))) | (refine Blk.keep ?_ (by with_reducible assumption)) | (refine Blk.below ?_ (by with_reducible assumption) (by (first | omega | (simp; done) | (simp; omega))))))); have BK1b : Blk w2 (w.heap.size + 1) 41 #[.slice none 0 0, .slice none 0 0] := (by (repeat (first | (with_reducible assumption) | ((with_reducible refine Blk.new' ?_); focus (simp; done)) | (with_reducible refine Blk.alloc ?_ _) | (with_reducible refine Blk.drew ?_) | (with_reducible refine Blk.drewN ?_ _) | ((with_reducible refine Blk.far ?_ ?_ _); rotate_left; focus (first | omega | (simp; done) | (simp; omega))) | (refine Blk.keep ?_ (by with_reducible assumption)) | (refine Blk.below ?_ (by with_reducible assumption) (by (first | omega | (simp; done) | (simp; omega))))))); have hcR := BK1b.cell; have hfR := BK1b.frozen; have hz2 := hb2.size; try simp at hz2))
    go_wp2
    refine bodyPost_ret (v := .agg #[.slice A R.length c, .slice none 0 0]) (by simp [results, Try.results22, go_sem, hcR, hfR]) rfl ⟨[.slice A R.length c, .slice none 0 0], rfl, ?_, by (repeat (first | (with_reducible exact Below.refl _ _) | (with_reducible assumption) | ((with_reducible refine Below.setCell ?_ ?_ _); rotate_left; focus (first | omega | (simp; done) | (simp; omega))) | ((with_reducible refine Below.alloc ?_ ?_ _); rotate_left; focus (first | omega | (simp; done) | (simp; omega))) | (with_reducible refine Below.drew ?_) | (with_reducible refine below_drewN ?_ _) | (refine Below.trans ?_ (Below.mono (by with_reducible assumption) (by (first | omega | (simp; done) | (simp; omega)))))))⟩
    replace ho := own_base (base' := w1.heap.size) ho (by first | omega | (simp; done) | (simp; omega))
    rw [HRk.out]
    refine own_safe (base := w1.heap.size) ?_ ?_ ?_
    · (repeat (first | (with_reducible exact ho) | ((with_reducible refine own_setCell ?_ ?_ _); rotate_left; focus (first | omega | (simp; done) | (simp; omega))) | (with_reducible refine World.ownsRow.alloc ?_ _) | (with_reducible refine own_drew ?_) | (with_reducible refine own_drewN ?_ _) | (refine own_below ?_ (by with_reducible assumption))))
    · omega
    · first | exact Nat.le_refl _ | omega | (simp; done) | (simp; omega)
end Go.Proofs.Ytndgaakfndokgaa
namespace Go.Proofs.Ytndgaakfndokgaa
open Go.RowKit
theorem len_le_sz {α : Type} (R : Rep α) (xs : List α) : xs.length ≤ szList R xs := Nat.le_add_right _ _
def rewA : List Record → List UInt8 → Option (List UInt8)
  | [], acc => some acc
  | r :: rs, acc => match encOk r && decide (acc.length + (frameB r).length ≤ 40000) with | true => rewA rs (acc ++ frameB r) | false => none
def rewB (d : Disk) (rs : List Record) : Bool := d.ok && (rewA rs []).isSome
def rewD (d : Disk) (rs : List Record) : Disk := match rewB d rs with | true => ⟨(rewA rs []).getD [], []⟩ | false => d
theorem rew_bad {d : Disk} {rs : List Record} (h : d.ok = false) : rewB d rs = false ∧ rewD d rs = d := by
  have h1 : rewB d rs = false := by unfold rewB; rw [h]; rfl
  exact ⟨h1, by unfold rewD; rw [h1]⟩
theorem rew_none {d : Disk} {rs : List Record} (h : rewA rs [] = none) : rewB d rs = false ∧ rewD d rs = d := by
  have h1 : rewB d rs = false := by unfold rewB; rw [h]; cases d.ok <;> rfl
  exact ⟨h1, by unfold rewD; rw [h1]⟩
theorem rew_some {d : Disk} {rs : List Record} {b : List UInt8} (h : d.ok = true) (h2 : rewA rs [] = some b) : rewB d rs = true ∧ rewD d rs = ⟨b, []⟩ := by
  have h1 : rewB d rs = true := by unfold rewB; rw [h, h2]; rfl
  exact ⟨h1, by unfold rewD; rw [h1, h2]; rfl⟩
theorem rewA_len : ∀ (rs : List Record) (acc b : List UInt8), acc.length ≤ 40000 → rewA rs acc = some b → b.length ≤ 40000
  | [], acc, b, h, e => by simp only [rewA, Option.some.injEq] at e; rw [← e]; exact h
  | r :: rs, acc, b, h, e => by
    rw [rewA] at e
    cases hc : encOk r && decide (acc.length + (frameB r).length ≤ 40000) <;> rw [hc] at e
    · cases e
    · simp only [Bool.and_eq_true, decide_eq_true_eq] at hc
      exact rewA_len rs _ b (by rw [List.length_append]; exact hc.2) e
theorem rewD_sz (d : Disk) (rs : List Record) : DiskR.sz (rewD d rs) ≤ DiskR.sz d + 40000 := by
  cases h : rewB d rs
  · have : rewD d rs = d := by unfold rewD; rw [h]
    rw [this]; omega
  · have h0 : rewD d rs = ⟨(rewA rs []).getD [], []⟩ := by unfold rewD; rw [h]
    unfold rewB at h
    rw [Bool.and_eq_true] at h
    obtain ⟨b, hb⟩ := Option.isSome_iff_exists.1 h.2
    have := rewA_len rs [] b (by simp) hb
    rw [h0, hb, sz_Disk, sz_Disk]
    simp only [sz_ByteS, Option.getD_some, List.length_nil]
    omega
end Go.Proofs.Ytndgaakfndokgaa
namespace Go.Proofs.Ytndgaakfndokgaa
open Go.RowKit
def fitB (d : Disk) (n : Nat) : Bool := decide (d.Safe.length + d.Loose.length + n ≤ 40000)
def appB (d : Disk) (r : Record) : Bool := d.ok && (encOk r && fitB d (frameB r).length)
def appD (d : Disk) (r : Record) : Disk := match appB d r with | true => ⟨d.Safe, d.Loose ++ frameB r⟩ | false => d
theorem appD_yes {d : Disk} {r : Record} (h : appB d r = true) : appD d r = ⟨d.Safe, d.Loose ++ frameB r⟩ := by unfold appD; rw [h]
theorem appD_no {d : Disk} {r : Record} (h : appB d r = false) : appD d r = d := by unfold appD; rw [h]
theorem appD_sz (d : Disk) (r : Record) : DiskR.sz (appD d r) ≤ DiskR.sz d + 4006 := by
  cases h : appB d r
  · rw [appD_no h]; omega
  · have := frameB_le r
    rw [appD_yes h, sz_Disk, sz_Disk]; simp only [sz_ByteS, List.length_append]; omega
theorem ok_app (d : Disk) (b : List UInt8) : Disk.ok ⟨d.Safe, d.Loose ++ b⟩ = fitB d b.length := by unfold Disk.ok fitB; simp only [List.length_append, Nat.add_assoc]
theorem own_setCell_off {w : World} {base : Nat} {e : TypeId} {size n : Nat} {v : Value} {xs : List Value} (h : w.ownsRow base e size v n xs) {a : Addr} (ha : ∀ g, v.ownBlock = some g → g ≠ a.block) (u : Value) : (w.setCell a u).ownsRow base e size v n xs := by
  refine ⟨h.1, ?_⟩
  rcases h.2 with hn | ⟨g, cap, cur, rfl, h0, hg, rest⟩
  · exact .inl hn
  · exact .inr ⟨g, cap, cur, rfl, h0, by rw [Below.heap_setCell w a u g (ha g rfl)]; exact hg, rest⟩
end Go.Proofs.Ytndgaakfndokgaa
namespace Go.Proofs.Ytndgaakfndokgaa
open Go.RowKit
theorem own_grown' {w w' : World} {base : Nat} {e : TypeId} {size n : Nat} {v : Value} {xs : List Value} {row : Option Nat} (h : w.ownsRow base e size v n xs) (hb : w.grownBy w' row) (hr : ∀ g, v.ownBlock = some g → some g ≠ row) : w'.ownsRow base e size v n xs := by
  refine ⟨h.1, ?_⟩
  rcases h.2 with hn | ⟨g, cap, cur, rfl, h0, hg, rest⟩
  · exact .inl hn
  · exact .inr ⟨g, cap, cur, rfl, h0, by rw [hb.block g (lt_of_heap hg) (hr g rfl)]; exact hg, rest⟩
set_option maxHeartbeats 1600000 in
theorem impl_cloneDiskO (cs : List Value) (d : Disk) (w : World) (h : DiskR.Rd w w.heap.size cs d) (hm : DiskR.sz d ≤ 1048576) :
    Calls Try.prog 41 #[.agg cs.toArray] w fun e w' => ∃ D0 d0 D1 d1, e = .returned (.agg #[.slice D0 d.Safe.length d0, .slice D1 d.Loose.length d1]) ∧ w'.ownsRow w.heap.size 5 1 (.slice D0 d.Safe.length d0) d.Safe.length (d.Safe.map byteV) ∧ w'.ownsRow w.heap.size 5 1 (.slice D1 d.Loose.length d1) d.Loose.length (d.Loose.map byteV) ∧ (∀ g, (Value.slice D0 d.Safe.length d0).ownBlock = some g → (Value.slice D1 d.Loose.length d1).ownBlock = some g → False) ∧ Below w.heap.size w w' := by
  obtain ⟨v0, v1, rfl, q0, q1⟩ := rd_Disk h
  obtain ⟨A0, c0, rfl⟩ := q0.form
  obtain ⟨A1, c1, rfl⟩ := q1.form
  have hl := len_sz_Disk hm
  have H0 := Lib.hid (fun (w' : World) (hb : Below w.heap.size w w') => slices_Clone_byte A0 c0 d.Safe w' ((rd_ByteS q0).2.1.keep hb hb.size) (by omega))
  have H1 := Lib.hid (fun (w' : World) (hb : Below w.heap.size w w') => slices_Clone_byte A1 c1 d.Loose w' ((rd_ByteS q1).2.1.keep hb hb.size) (by omega))
  go_enter Try.func41, Try.ntmps41
  go_wp2
  have BK : Blk ((w.alloc (.cells #[.slice A0 d.Safe.length c0, .slice A1 d.Loose.length c1] 41)).alloc (.cells #[.slice none 0 0, .slice none 0 0] 41)) w.heap.size 41 #[.slice A0 d.Safe.length c0, .slice A1 d.Loose.length c1] := by (repeat (first | (with_reducible assumption) | ((with_reducible refine Blk.new' ?_); focus (simp; done)) | (with_reducible refine Blk.alloc ?_ _) | (with_reducible refine Blk.drew ?_) | (with_reducible refine Blk.drewN ?_ _) | ((with_reducible refine Blk.far ?_ ?_ _); rotate_left; focus (first | omega | (simp; done) | (simp; omega))) | (refine Blk.keep ?_ (by with_reducible assumption)) | (refine Blk.below ?_ (by with_reducible assumption) (by (first | omega | (simp; done) | (simp; omega))))))
  have hbW : Below w.heap.size w ((w.alloc (.cells #[.slice A0 d.Safe.length c0, .slice A1 d.Loose.length c1] 41)).alloc (.cells #[.slice none 0 0, .slice none 0 0] 41)) := by (repeat (first | (with_reducible exact Below.refl _ _) | (with_reducible assumption) | ((with_reducible refine Below.setCell ?_ ?_ _); rotate_left; focus (first | omega | (simp; done) | (simp; omega))) | ((with_reducible refine Below.alloc ?_ ?_ _); rotate_left; focus (first | omega | (simp; done) | (simp; omega))) | (with_reducible refine Below.drew ?_) | (with_reducible refine below_drewN ?_ _) | (refine Below.trans ?_ (Below.mono (by with_reducible assumption) (by (first | omega | (simp; done) | (simp; omega)))))))
  have BR : Blk ((w.alloc (.cells #[.slice A0 d.Safe.length c0, .slice A1 d.Loose.length c1] 41)).alloc (.cells #[.slice none 0 0, .slice none 0 0] 41)) (w.heap.size + 1) 41 #[.slice none 0 0, .slice none 0 0] := Blk.new' (by simp)
  have hzW : w.heap.size + 2 ≤ ((w.alloc (.cells #[.slice A0 d.Safe.length c0, .slice A1 d.Loose.length c1] 41)).alloc (.cells #[.slice none 0 0, .slice none 0 0] 41)).heap.size := by simp
  generalize (w.alloc (.cells #[.slice A0 d.Safe.length c0, .slice A1 d.Loose.length c1] 41)).alloc (.cells #[.slice none 0 0, .slice none 0 0] 41) = W at *
  go_region_held3 (fun w' => w'.cell? ⟨w.heap.size, 0, none⟩ = some (.slice A0 d.Safe.length c0) ∧ w'.cell? ⟨w.heap.size, 1, none⟩ = some (.slice A1 d.Loose.length c1))
    (refine ⟨Blk.cell (t := 41) (cs := #[.slice A0 d.Safe.length c0, .slice A1 d.Loose.length c1]) ?_ 0, Blk.cell (t := 41) (cs := #[.slice A0 d.Safe.length c0, .slice A1 d.Loose.length c1]) ?_ 1⟩ <;> (repeat (first | (with_reducible assumption) | ((with_reducible refine Blk.new' ?_); focus (simp; done)) | (with_reducible refine Blk.alloc ?_ _) | (with_reducible refine Blk.drew ?_) | (with_reducible refine Blk.drewN ?_ _) | ((with_reducible refine Blk.far ?_ ?_ _); rotate_left; focus (first | omega | (simp; done) | (simp; omega))) | (refine Blk.keep ?_ (by with_reducible assumption)) | (refine Blk.below ?_ (by with_reducible assumption) (by (first | omega | (simp; done) | (simp; omega)))))))
    (first
    | (go_at_call 59; ((with_reducible refine (H0.out _ ?_).mono ?_); (focus (repeat (first | (with_reducible exact Below.refl _ _) | (with_reducible assumption) | ((with_reducible refine Below.setCell ?_ ?_ _); rotate_left; focus (first | omega | (simp; done) | (simp; omega))) | ((with_reducible refine Below.alloc ?_ ?_ _); rotate_left; focus (first | omega | (simp; done) | (simp; omega))) | (with_reducible refine Below.drew ?_) | (with_reducible refine below_drewN ?_ _) | (refine Below.trans ?_ (Below.mono (by with_reducible assumption) (by (first | omega | (simp; done) | (simp; omega))))))))); rintro e wA ⟨D0, d0, rfl, ho0, hbA⟩; have BKa : Blk wA w.heap.size 41 #[.slice A0 d.Safe.length c0, .slice A1 d.Loose.length c1] := (by (repeat (first | (with_reducible assumption) | ((with_reducible refine Blk.new' ?_); focus (simp; done)) | (with_reducible refine Blk.alloc ?_ _) | (with_reducible refine Blk.drew ?_) | (with_reducible refine Blk.drewN ?_ _) | ((with_reducible refine Blk.far ?_ ?_ _); rotate_left; focus (first | omega | (simp; done) | (simp; omega))) | (refine Blk.keep ?_ (by with_reducible assumption)) | (refine Blk.below ?_ (by with_reducible assumption) (by (first | omega | (simp; done) | (simp; omega))))))); have BRa : Blk wA (w.heap.size + 1) 41 #[.slice none 0 0, .slice none 0 0] := (by (repeat (first | (with_reducible assumption) | ((with_reducible refine Blk.new' ?_); focus (simp; done)) | (with_reducible refine Blk.alloc ?_ _) | (with_reducible refine Blk.drew ?_) | (with_reducible refine Blk.drewN ?_ _) | ((with_reducible refine Blk.far ?_ ?_ _); rotate_left; focus (first | omega | (simp; done) | (simp; omega))) | (refine Blk.keep ?_ (by with_reducible assumption)) | (refine Blk.below ?_ (by with_reducible assumption) (by (first | omega | (simp; done) | (simp; omega))))))); have hzA := hbA.size; (try simp at hzA); have hcA := BRa.cell; have hfA := BRa.frozen)
    | (go_at_call 59; ((with_reducible refine (H1.out _ ?_).mono ?_); (focus (repeat (first | (with_reducible exact Below.refl _ _) | (with_reducible assumption) | ((with_reducible refine Below.setCell ?_ ?_ _); rotate_left; focus (first | omega | (simp; done) | (simp; omega))) | ((with_reducible refine Below.alloc ?_ ?_ _); rotate_left; focus (first | omega | (simp; done) | (simp; omega))) | (with_reducible refine Below.drew ?_) | (with_reducible refine below_drewN ?_ _) | (refine Below.trans ?_ (Below.mono (by with_reducible assumption) (by (first | omega | (simp; done) | (simp; omega))))))))); rintro e wB ⟨D1, d1, rfl, ho1, hbB⟩; have BKb : Blk wB w.heap.size 41 #[.slice A0 d.Safe.length c0, .slice A1 d.Loose.length c1] := (by (repeat (first | (with_reducible assumption) | ((with_reducible refine Blk.new' ?_); focus (simp; done)) | (with_reducible refine Blk.alloc ?_ _) | (with_reducible refine Blk.drew ?_) | (with_reducible refine Blk.drewN ?_ _) | ((with_reducible refine Blk.far ?_ ?_ _); rotate_left; focus (first | omega | (simp; done) | (simp; omega))) | (refine Blk.keep ?_ (by with_reducible assumption)) | (refine Blk.below ?_ (by with_reducible assumption) (by (first | omega | (simp; done) | (simp; omega))))))); have BRb : Blk wB (w.heap.size + 1) 41 #[.slice none 0 0, .slice none 0 0] := (by (repeat (first | (with_reducible assumption) | ((with_reducible refine Blk.new' ?_); focus (simp; done)) | (with_reducible refine Blk.alloc ?_ _) | (with_reducible refine Blk.drew ?_) | (with_reducible refine Blk.drewN ?_ _) | ((with_reducible refine Blk.far ?_ ?_ _); rotate_left; focus (first | omega | (simp; done) | (simp; omega))) | (refine Blk.keep ?_ (by with_reducible assumption)) | (refine Blk.below ?_ (by with_reducible assumption) (by (first | omega | (simp; done) | (simp; omega))))))); have hzB := hbB.size; (try simp at hzB); have hcB := BRb.cell; have hfB := BRb.frozen))
  all_goals
    go_wp2
    have p0 := fun g hg => ho0.lt g hg
    have p1 := fun g hg => ho1.lt g hg
    replace ho0 := own_base (base' := W.heap.size) ho0 (by first | omega | (simp; done) | (simp; omega))
    replace ho1 := own_base (base' := W.heap.size) ho1 (by first | omega | (simp; done) | (simp; omega))
    refine bodyPost_ret (v := .agg #[.slice D0 d.Safe.length d0, .slice D1 d.Loose.length d1]) (by simp [results, Try.results41, go_sem, hcA, hfA, hcB, hfB]) rfl ⟨D0, d0, D1, d1, rfl, ?_, ?_, ?_, by (repeat (first | (with_reducible exact Below.refl _ _) | (with_reducible assumption) | ((with_reducible refine Below.setCell ?_ ?_ _); rotate_left; focus (first | omega | (simp; done) | (simp; omega))) | ((with_reducible refine Below.alloc ?_ ?_ _); rotate_left; focus (first | omega | (simp; done) | (simp; omega))) | (with_reducible refine Below.drew ?_) | (with_reducible refine below_drewN ?_ _) | (refine Below.trans ?_ (Below.mono (by with_reducible assumption) (by (first | omega | (simp; done) | (simp; omega)))))))⟩
    · refine own_base (base := W.heap.size) ?_ (by omega)
      (repeat (first | (with_reducible exact ho0) | ((with_reducible refine own_setCell ?_ ?_ _); rotate_left; focus (first | omega | (simp; done) | (simp; omega))) | (with_reducible refine World.ownsRow.alloc ?_ _) | (with_reducible refine own_drew ?_) | (with_reducible refine own_drewN ?_ _) | (refine own_below ?_ (by with_reducible assumption))))
    · refine own_base (base := W.heap.size) ?_ (by omega)
      (repeat (first | (with_reducible exact ho1) | ((with_reducible refine own_setCell ?_ ?_ _); rotate_left; focus (first | omega | (simp; done) | (simp; omega))) | (with_reducible refine World.ownsRow.alloc ?_ _) | (with_reducible refine own_drew ?_) | (with_reducible refine own_drewN ?_ _) | (refine own_below ?_ (by with_reducible assumption))))
    · intro g hg hg'; have h1 := p0 g hg; have h2 := p1 g hg'; omega
set_option maxHeartbeats 3200000 in
theorem impl_AppendLog (cs0 : List Value) (d : Disk) (cs1 : List Value) (r : Record) (w : World) (h0 : DiskR.Rd w w.heap.size cs0 d) (h1 : RecordR.Rd w w.heap.size cs1 r) (m0 : DiskR.sz d ≤ 1048576) (m1 : RecordR.sz r ≤ 1048576) :
    Calls Try.prog 19 #[.agg cs0.toArray, .agg cs1.toArray] w fun e w' => ∃ cs', e = .returned (.tuple #[.agg cs'.toArray, .bool (appB d r)]) ∧ DiskR.Own w' (InR w.heap.size w'.heap.size) cs' (appD d r) ∧ Below w.heap.size w w' := by
  obtain ⟨v0, v1, rfl, q0, q1⟩ := rd_Disk h0
  obtain ⟨A0, c0, rfl⟩ := q0.form
  obtain ⟨A1, c1, rfl⟩ := q1.form
  obtain ⟨v2, v3, rfl, q2, q3⟩ := rd_Record h1
  obtain ⟨A2, c2, rfl⟩ := q2.form
  obtain ⟨A3, c3, rfl⟩ := q3.form
  have hl := len_sz_Disk m0
  have hfb := frameB_le r
  have r0 := (rd_ByteS q0).2.1
  have r1 := (rd_ByteS q1).2.1
  have HF := Lib.hid (fun w' hr => impl_frameRecord [.int .i64 r.Kind, .slice A2 r.Nums.length c2, .slice A3 r.Texts.length c3] r w' hr m1)
  have HD := Lib.hid (fun w' hr => impl_isDisk [.slice A0 d.Safe.length c0, .slice A1 d.Loose.length c1] d w' hr m0)
  have HC := Lib.hid (fun w' hr => impl_cloneDiskO [.slice A0 d.Safe.length c0, .slice A1 d.Loose.length c1] d w' hr m0)
  have hb : appB d r = (d.ok && (encOk r && fitB d (frameB r).length)) := rfl
  cases he : encOk r <;> rw [he] at hb HF <;> (try rw [Bool.false_and, Bool.and_false] at hb) <;> (try rw [Bool.true_and] at hb)
  · rw [appD_no hb, hb]
    generalize frameB r = b at *
    clear hb he
    go_enter Try.func19, Try.ntmps19
    go_wp2_with fail
    refine (HF.out _ (RecordR.rd_keep h1 (by (repeat (first | (with_reducible exact Below.refl _ _) | (with_reducible assumption) | ((with_reducible refine Below.setCell ?_ ?_ _); rotate_left; focus (first | omega | (simp; done) | (simp; omega))) | ((with_reducible refine Below.alloc ?_ ?_ _); rotate_left; focus (first | omega | (simp; done) | (simp; omega))) | (with_reducible refine Below.drew ?_) | (with_reducible refine below_drewN ?_ _) | (refine Below.trans ?_ (Below.mono (by with_reducible assumption) (by (first | omega | (simp; done) | (simp; omega)))))))) (by first | omega | (simp; done) | (simp; omega)))).mono ?_
    rintro e w1 ⟨D, dd, rfl, ho, hb1⟩
    have hz1 := hb1.size; try simp at hz1
    have BK0 : Blk w1 w.heap.size 41 #[.slice A0 d.Safe.length c0, .slice A1 d.Loose.length c1] := by (repeat (first | (with_reducible assumption) | ((with_reducible refine Blk.new' ?_); focus (simp; done)) | (with_reducible refine Blk.alloc ?_ _) | (with_reducible refine Blk.drew ?_) | (with_reducible refine Blk.drewN ?_ _) | ((with_reducible refine Blk.far ?_ ?_ _); rotate_left; focus (first | omega | (simp; done) | (simp; omega))) | (refine Blk.keep ?_ (by with_reducible assumption)) | (refine Blk.below ?_ (by with_reducible assumption) (by (first | omega | (simp; done) | (simp; omega))))))
    have BK1 : Blk w1 (w.heap.size + 2) 41 #[.slice none 0 0, .slice none 0 0] := by (repeat (first | (with_reducible assumption) | ((with_reducible refine Blk.new' ?_); focus (simp; done)) | (with_reducible refine Blk.alloc ?_ _) | (with_reducible refine Blk.drew ?_) | (with_reducible refine Blk.drewN ?_ _) | ((with_reducible refine Blk.far ?_ ?_ _); rotate_left; focus (first | omega | (simp; done) | (simp; omega))) | (refine Blk.keep ?_ (by with_reducible assumption)) | (refine Blk.below ?_ (by with_reducible assumption) (by (first | omega | (simp; done) | (simp; omega))))))
    have hc0 := BK0.cell; have hf0 := BK0.frozen; have hl0 := BK0.lt; have hc1 := BK1.cell; have hf1 := BK1.frozen; have hl1 := BK1.lt
    go_wp2_with fail
    refine (HC.out _ (DiskR.rd_keep h0 (by (repeat (first | (with_reducible exact Below.refl _ _) | (with_reducible assumption) | ((with_reducible refine Below.setCell ?_ ?_ _); rotate_left; focus (first | omega | (simp; done) | (simp; omega))) | ((with_reducible refine Below.alloc ?_ ?_ _); rotate_left; focus (first | omega | (simp; done) | (simp; omega))) | (with_reducible refine Below.drew ?_) | (with_reducible refine below_drewN ?_ _) | (refine Below.trans ?_ (Below.mono (by with_reducible assumption) (by (first | omega | (simp; done) | (simp; omega)))))))) (by first | omega | (simp; done) | (simp; omega)))).mono ?_
    rintro e w2 ⟨D0, d0, D1, d1, rfl, ho0, ho1, pd, hb2⟩
    have hz2 := hb2.size; try simp at hz2
    replace BK0 : Blk w2 w.heap.size 41 #[.slice A0 d.Safe.length c0, .slice A1 d.Loose.length c1] := by (repeat (first | (with_reducible assumption) | ((with_reducible refine Blk.new' ?_); focus (simp; done)) | (with_reducible refine Blk.alloc ?_ _) | (with_reducible refine Blk.drew ?_) | (with_reducible refine Blk.drewN ?_ _) | ((with_reducible refine Blk.far ?_ ?_ _); rotate_left; focus (first | omega | (simp; done) | (simp; omega))) | (refine Blk.keep ?_ (by with_reducible assumption)) | (refine Blk.below ?_ (by with_reducible assumption) (by (first | omega | (simp; done) | (simp; omega))))))
    replace BK1 : Blk w2 (w.heap.size + 2) 41 #[.slice none 0 0, .slice none 0 0] := by (repeat (first | (with_reducible assumption) | ((with_reducible refine Blk.new' ?_); focus (simp; done)) | (with_reducible refine Blk.alloc ?_ _) | (with_reducible refine Blk.drew ?_) | (with_reducible refine Blk.drewN ?_ _) | ((with_reducible refine Blk.far ?_ ?_ _); rotate_left; focus (first | omega | (simp; done) | (simp; omega))) | (refine Blk.keep ?_ (by with_reducible assumption)) | (refine Blk.below ?_ (by with_reducible assumption) (by (first | omega | (simp; done) | (simp; omega))))))
    replace hc0 := BK0.cell; replace hf0 := BK0.frozen; replace hl0 := BK0.lt; replace hc1 := BK1.cell; replace hf1 := BK1.frozen; replace hl1 := BK1.lt
    go_wp2
    have BE : Blk (World.alloc ((w2.setCell ⟨w.heap.size + 2, 0, none⟩ (.slice D0 d.Safe.length d0)).setCell ⟨w.heap.size + 2, 1, none⟩ (.slice D1 d.Loose.length d1)) (.cells #[.slice D0 d.Safe.length d0, .slice D1 d.Loose.length d1] 41)) (w.heap.size + 2) 41 #[.slice D0 d.Safe.length d0, .slice D1 d.Loose.length d1] := ((BK1.set_ 0 _).set_ 1 _).alloc _
    have hcE := BE.cell
    have hfE := BE.frozen
    refine bodyPost_ret (v := .tuple #[.agg #[.slice D0 d.Safe.length d0, .slice D1 d.Loose.length d1], .bool false]) (by simp [results, Try.results19, go_sem, hcE, hfE]) rfl ⟨[.slice D0 d.Safe.length d0, .slice D1 d.Loose.length d1], rfl, ?_, by (repeat (first | (with_reducible exact Below.refl _ _) | (with_reducible assumption) | ((with_reducible refine Below.setCell ?_ ?_ _); rotate_left; focus (first | omega | (simp; done) | (simp; omega))) | ((with_reducible refine Below.alloc ?_ ?_ _); rotate_left; focus (first | omega | (simp; done) | (simp; omega))) | (with_reducible refine Below.drew ?_) | (with_reducible refine below_drewN ?_ _) | (refine Below.trans ?_ (Below.mono (by with_reducible assumption) (by (first | omega | (simp; done) | (simp; omega)))))))⟩
    refine of_own_Disk (S0 := fun g => (Value.slice D0 d.Safe.length d0).ownBlock = some g) (S1 := fun g => (Value.slice D1 d.Loose.length d1).ownBlock = some g) (of_own_ByteS (base := w1.heap.size) (by (repeat (first | (with_reducible exact ho0) | ((with_reducible refine own_setCell ?_ ?_ _); rotate_left; focus (first | omega | (simp; done) | (simp; omega))) | (with_reducible refine World.ownsRow.alloc ?_ _) | (with_reducible refine own_drew ?_) | (with_reducible refine own_drewN ?_ _) | (refine own_below ?_ (by with_reducible assumption)))))) (of_own_ByteS (base := w1.heap.size) (by (repeat (first | (with_reducible exact ho1) | ((with_reducible refine own_setCell ?_ ?_ _); rotate_left; focus (first | omega | (simp; done) | (simp; omega))) | (with_reducible refine World.ownsRow.alloc ?_ _) | (with_reducible refine own_drew ?_) | (with_reducible refine own_drewN ?_ _) | (refine own_below ?_ (by with_reducible assumption)))))) ?_ ?_ ?_
    · intro g hg; have := ho0.lt g hg; exact ⟨by omega, by first | omega | (simp; omega)⟩
    · intro g hg; have := ho1.lt g hg; exact ⟨by omega, by first | omega | (simp; omega)⟩
    · exact pd
  · cases hd : d.ok <;> rw [hd] at hb HD <;> (try rw [Bool.false_and] at hb) <;> (try rw [Bool.true_and] at hb)
    · rw [appD_no hb, hb]
      generalize frameB r = b at *
      clear hb he hd
      go_enter Try.func19, Try.ntmps19
      go_wp2_with fail
      refine (HF.out _ (RecordR.rd_keep h1 (by (repeat (first | (with_reducible exact Below.refl _ _) | (with_reducible assumption) | ((with_reducible refine Below.setCell ?_ ?_ _); rotate_left; focus (first | omega | (simp; done) | (simp; omega))) | ((with_reducible refine Below.alloc ?_ ?_ _); rotate_left; focus (first | omega | (simp; done) | (simp; omega))) | (with_reducible refine Below.drew ?_) | (with_reducible refine below_drewN ?_ _) | (refine Below.trans ?_ (Below.mono (by with_reducible assumption) (by (first | omega | (simp; done) | (simp; omega)))))))) (by first | omega | (simp; done) | (simp; omega)))).mono ?_
      rintro e w1 ⟨D, dd, rfl, ho, hb1⟩
      have hz1 := hb1.size; try simp at hz1
      have BK0 : Blk w1 w.heap.size 41 #[.slice A0 d.Safe.length c0, .slice A1 d.Loose.length c1] := by (repeat (first | (with_reducible assumption) | ((with_reducible refine Blk.new' ?_); focus (simp; done)) | (with_reducible refine Blk.alloc ?_ _) | (with_reducible refine Blk.drew ?_) | (with_reducible refine Blk.drewN ?_ _) | ((with_reducible refine Blk.far ?_ ?_ _); rotate_left; focus (first | omega | (simp; done) | (simp; omega))) | (refine Blk.keep ?_ (by with_reducible assumption)) | (refine Blk.below ?_ (by with_reducible assumption) (by (first | omega | (simp; done) | (simp; omega))))))
      have BK1 : Blk w1 (w.heap.size + 2) 41 #[.slice none 0 0, .slice none 0 0] := by (repeat (first | (with_reducible assumption) | ((with_reducible refine Blk.new' ?_); focus (simp; done)) | (with_reducible refine Blk.alloc ?_ _) | (with_reducible refine Blk.drew ?_) | (with_reducible refine Blk.drewN ?_ _) | ((with_reducible refine Blk.far ?_ ?_ _); rotate_left; focus (first | omega | (simp; done) | (simp; omega))) | (refine Blk.keep ?_ (by with_reducible assumption)) | (refine Blk.below ?_ (by with_reducible assumption) (by (first | omega | (simp; done) | (simp; omega))))))
      have hc0 := BK0.cell; have hf0 := BK0.frozen; have hl0 := BK0.lt; have hc1 := BK1.cell; have hf1 := BK1.frozen; have hl1 := BK1.lt
      go_wp2_with fail
      refine (HC.out _ (DiskR.rd_keep h0 (by (repeat (first | (with_reducible exact Below.refl _ _) | (with_reducible assumption) | ((with_reducible refine Below.setCell ?_ ?_ _); rotate_left; focus (first | omega | (simp; done) | (simp; omega))) | ((with_reducible refine Below.alloc ?_ ?_ _); rotate_left; focus (first | omega | (simp; done) | (simp; omega))) | (with_reducible refine Below.drew ?_) | (with_reducible refine below_drewN ?_ _) | (refine Below.trans ?_ (Below.mono (by with_reducible assumption) (by (first | omega | (simp; done) | (simp; omega)))))))) (by first | omega | (simp; done) | (simp; omega)))).mono ?_
      rintro e w2 ⟨D0, d0, D1, d1, rfl, ho0, ho1, pd, hb2⟩
      have hz2 := hb2.size; try simp at hz2
      replace BK0 : Blk w2 w.heap.size 41 #[.slice A0 d.Safe.length c0, .slice A1 d.Loose.length c1] := by (repeat (first | (with_reducible assumption) | ((with_reducible refine Blk.new' ?_); focus (simp; done)) | (with_reducible refine Blk.alloc ?_ _) | (with_reducible refine Blk.drew ?_) | (with_reducible refine Blk.drewN ?_ _) | ((with_reducible refine Blk.far ?_ ?_ _); rotate_left; focus (first | omega | (simp; done) | (simp; omega))) | (refine Blk.keep ?_ (by with_reducible assumption)) | (refine Blk.below ?_ (by with_reducible assumption) (by (first | omega | (simp; done) | (simp; omega))))))
      replace BK1 : Blk w2 (w.heap.size + 2) 41 #[.slice none 0 0, .slice none 0 0] := by (repeat (first | (with_reducible assumption) | ((with_reducible refine Blk.new' ?_); focus (simp; done)) | (with_reducible refine Blk.alloc ?_ _) | (with_reducible refine Blk.drew ?_) | (with_reducible refine Blk.drewN ?_ _) | ((with_reducible refine Blk.far ?_ ?_ _); rotate_left; focus (first | omega | (simp; done) | (simp; omega))) | (refine Blk.keep ?_ (by with_reducible assumption)) | (refine Blk.below ?_ (by with_reducible assumption) (by (first | omega | (simp; done) | (simp; omega))))))
      replace hc0 := BK0.cell; replace hf0 := BK0.frozen; replace hl0 := BK0.lt; replace hc1 := BK1.cell; replace hf1 := BK1.frozen; replace hl1 := BK1.lt
      go_wp2_with fail
      refine (HD.out _ (DiskR.rd_keep h0 (by (repeat (first | (with_reducible exact Below.refl _ _) | (with_reducible assumption) | ((with_reducible refine Below.setCell ?_ ?_ _); rotate_left; focus (first | omega | (simp; done) | (simp; omega))) | ((with_reducible refine Below.alloc ?_ ?_ _); rotate_left; focus (first | omega | (simp; done) | (simp; omega))) | (with_reducible refine Below.drew ?_) | (with_reducible refine below_drewN ?_ _) | (refine Below.trans ?_ (Below.mono (by with_reducible assumption) (by (first | omega | (simp; done) | (simp; omega)))))))) (by first | omega | (simp; done) | (simp; omega)))).mono ?_
      rintro e w3 ⟨rfl, hb3⟩
      have hz3 := hb3.size; try simp at hz3
      have BN : Blk w3 w2.heap.size 41 #[.slice D0 d.Safe.length d0, .slice D1 d.Loose.length d1] := by (repeat (first | (with_reducible assumption) | ((with_reducible refine Blk.new' ?_); focus (simp; done)) | (with_reducible refine Blk.alloc ?_ _) | (with_reducible refine Blk.drew ?_) | (with_reducible refine Blk.drewN ?_ _) | ((with_reducible refine Blk.far ?_ ?_ _); rotate_left; focus (first | omega | (simp; done) | (simp; omega))) | (refine Blk.keep ?_ (by with_reducible assumption)) | (refine Blk.below ?_ (by with_reducible assumption) (by (first | omega | (simp; done) | (simp; omega))))))
      replace BK0 : Blk w3 w.heap.size 41 #[.slice A0 d.Safe.length c0, .slice A1 d.Loose.length c1] := by (repeat (first | (with_reducible assumption) | ((with_reducible refine Blk.new' ?_); focus (simp; done)) | (with_reducible refine Blk.alloc ?_ _) | (with_reducible refine Blk.drew ?_) | (with_reducible refine Blk.drewN ?_ _) | ((with_reducible refine Blk.far ?_ ?_ _); rotate_left; focus (first | omega | (simp; done) | (simp; omega))) | (refine Blk.keep ?_ (by with_reducible assumption)) | (refine Blk.below ?_ (by with_reducible assumption) (by (first | omega | (simp; done) | (simp; omega))))))
      replace BK1 : Blk w3 (w.heap.size + 2) 41 #[.slice none 0 0, .slice none 0 0] := by (repeat (first | (with_reducible assumption) | ((with_reducible refine Blk.new' ?_); focus (simp; done)) | (with_reducible refine Blk.alloc ?_ _) | (with_reducible refine Blk.drew ?_) | (with_reducible refine Blk.drewN ?_ _) | ((with_reducible refine Blk.far ?_ ?_ _); rotate_left; focus (first | omega | (simp; done) | (simp; omega))) | (refine Blk.keep ?_ (by with_reducible assumption)) | (refine Blk.below ?_ (by with_reducible assumption) (by (first | omega | (simp; done) | (simp; omega))))))
      replace hc0 := BK0.cell; replace hf0 := BK0.frozen; replace hl0 := BK0.lt; replace hc1 := BK1.cell; replace hf1 := BK1.frozen; replace hl1 := BK1.lt
      have hcN := BN.cell; have hfN := BN.frozen; have hlN := BN.lt
      go_wp2
      refine bodyPost_ret (v := .tuple #[.agg #[.slice D0 d.Safe.length d0, .slice D1 d.Loose.length d1], .bool false]) (by simp [results, Try.results19, go_sem, hc1, hf1]) rfl ⟨[.slice D0 d.Safe.length d0, .slice D1 d.Loose.length d1], rfl, ?_, by (repeat (first | (with_reducible exact Below.refl _ _) | (with_reducible assumption) | ((with_reducible refine Below.setCell ?_ ?_ _); rotate_left; focus (first | omega | (simp; done) | (simp; omega))) | ((with_reducible refine Below.alloc ?_ ?_ _); rotate_left; focus (first | omega | (simp; done) | (simp; omega))) | (with_reducible refine Below.drew ?_) | (with_reducible refine below_drewN ?_ _) | (refine Below.trans ?_ (Below.mono (by with_reducible assumption) (by (first | omega | (simp; done) | (simp; omega)))))))⟩
      refine of_own_Disk (S0 := fun g => (Value.slice D0 d.Safe.length d0).ownBlock = some g) (S1 := fun g => (Value.slice D1 d.Loose.length d1).ownBlock = some g) (of_own_ByteS (base := w1.heap.size) (by (repeat (first | (with_reducible exact ho0) | ((with_reducible refine own_setCell ?_ ?_ _); rotate_left; focus (first | omega | (simp; done) | (simp; omega))) | (with_reducible refine World.ownsRow.alloc ?_ _) | (with_reducible refine own_drew ?_) | (with_reducible refine own_drewN ?_ _) | (refine own_below ?_ (by with_reducible assumption)))))) (of_own_ByteS (base := w1.heap.size) (by (repeat (first | (with_reducible exact ho1) | ((with_reducible refine own_setCell ?_ ?_ _); rotate_left; focus (first | omega | (simp; done) | (simp; omega))) | (with_reducible refine World.ownsRow.alloc ?_ _) | (with_reducible refine own_drew ?_) | (with_reducible refine own_drewN ?_ _) | (refine own_below ?_ (by with_reducible assumption)))))) ?_ ?_ ?_
      · intro g hg; have := ho0.lt g hg; exact ⟨by omega, by first | omega | (simp; omega)⟩
      · intro g hg; have := ho1.lt g hg; exact ⟨by omega, by first | omega | (simp; omega)⟩
      · exact pd
    · cases hf : fitB d (frameB r).length
      · rw [hf] at hb
        rw [appD_no hb, hb]
        generalize frameB r = b at *
        have hgt : (40000 : Int) < (d.Safe.length : Int) + d.Loose.length + b.length := by (unfold fitB at hf; simp only [decide_eq_false_iff_not] at hf; omega)
        clear hb he hd hf
        go_enter Try.func19, Try.ntmps19
        go_wp2_with fail
        refine (HF.out _ (RecordR.rd_keep h1 (by (repeat (first | (with_reducible exact Below.refl _ _) | (with_reducible assumption) | ((with_reducible refine Below.setCell ?_ ?_ _); rotate_left; focus (first | omega | (simp; done) | (simp; omega))) | ((with_reducible refine Below.alloc ?_ ?_ _); rotate_left; focus (first | omega | (simp; done) | (simp; omega))) | (with_reducible refine Below.drew ?_) | (with_reducible refine below_drewN ?_ _) | (refine Below.trans ?_ (Below.mono (by with_reducible assumption) (by (first | omega | (simp; done) | (simp; omega)))))))) (by first | omega | (simp; done) | (simp; omega)))).mono ?_
        rintro e w1 ⟨D, dd, rfl, ho, hb1⟩
        have hz1 := hb1.size; try simp at hz1
        have BK0 : Blk w1 w.heap.size 41 #[.slice A0 d.Safe.length c0, .slice A1 d.Loose.length c1] := by (repeat (first | (with_reducible assumption) | ((with_reducible refine Blk.new' ?_); focus (simp; done)) | (with_reducible refine Blk.alloc ?_ _) | (with_reducible refine Blk.drew ?_) | (with_reducible refine Blk.drewN ?_ _) | ((with_reducible refine Blk.far ?_ ?_ _); rotate_left; focus (first | omega | (simp; done) | (simp; omega))) | (refine Blk.keep ?_ (by with_reducible assumption)) | (refine Blk.below ?_ (by with_reducible assumption) (by (first | omega | (simp; done) | (simp; omega))))))
        have BK1 : Blk w1 (w.heap.size + 2) 41 #[.slice none 0 0, .slice none 0 0] := by (repeat (first | (with_reducible assumption) | ((with_reducible refine Blk.new' ?_); focus (simp; done)) | (with_reducible refine Blk.alloc ?_ _) | (with_reducible refine Blk.drew ?_) | (with_reducible refine Blk.drewN ?_ _) | ((with_reducible refine Blk.far ?_ ?_ _); rotate_left; focus (first | omega | (simp; done) | (simp; omega))) | (refine Blk.keep ?_ (by with_reducible assumption)) | (refine Blk.below ?_ (by with_reducible assumption) (by (first | omega | (simp; done) | (simp; omega))))))
        have hc0 := BK0.cell; have hf0 := BK0.frozen; have hl0 := BK0.lt; have hc1 := BK1.cell; have hf1 := BK1.frozen; have hl1 := BK1.lt
        go_wp2_with fail
        refine (HC.out _ (DiskR.rd_keep h0 (by (repeat (first | (with_reducible exact Below.refl _ _) | (with_reducible assumption) | ((with_reducible refine Below.setCell ?_ ?_ _); rotate_left; focus (first | omega | (simp; done) | (simp; omega))) | ((with_reducible refine Below.alloc ?_ ?_ _); rotate_left; focus (first | omega | (simp; done) | (simp; omega))) | (with_reducible refine Below.drew ?_) | (with_reducible refine below_drewN ?_ _) | (refine Below.trans ?_ (Below.mono (by with_reducible assumption) (by (first | omega | (simp; done) | (simp; omega)))))))) (by first | omega | (simp; done) | (simp; omega)))).mono ?_
        rintro e w2 ⟨D0, d0, D1, d1, rfl, ho0, ho1, pd, hb2⟩
        have hz2 := hb2.size; try simp at hz2
        replace BK0 : Blk w2 w.heap.size 41 #[.slice A0 d.Safe.length c0, .slice A1 d.Loose.length c1] := by (repeat (first | (with_reducible assumption) | ((with_reducible refine Blk.new' ?_); focus (simp; done)) | (with_reducible refine Blk.alloc ?_ _) | (with_reducible refine Blk.drew ?_) | (with_reducible refine Blk.drewN ?_ _) | ((with_reducible refine Blk.far ?_ ?_ _); rotate_left; focus (first | omega | (simp; done) | (simp; omega))) | (refine Blk.keep ?_ (by with_reducible assumption)) | (refine Blk.below ?_ (by with_reducible assumption) (by (first | omega | (simp; done) | (simp; omega))))))
        replace BK1 : Blk w2 (w.heap.size + 2) 41 #[.slice none 0 0, .slice none 0 0] := by (repeat (first | (with_reducible assumption) | ((with_reducible refine Blk.new' ?_); focus (simp; done)) | (with_reducible refine Blk.alloc ?_ _) | (with_reducible refine Blk.drew ?_) | (with_reducible refine Blk.drewN ?_ _) | ((with_reducible refine Blk.far ?_ ?_ _); rotate_left; focus (first | omega | (simp; done) | (simp; omega))) | (refine Blk.keep ?_ (by with_reducible assumption)) | (refine Blk.below ?_ (by with_reducible assumption) (by (first | omega | (simp; done) | (simp; omega))))))
        replace hc0 := BK0.cell; replace hf0 := BK0.frozen; replace hl0 := BK0.lt; replace hc1 := BK1.cell; replace hf1 := BK1.frozen; replace hl1 := BK1.lt
        go_wp2_with fail
        refine (HD.out _ (DiskR.rd_keep h0 (by (repeat (first | (with_reducible exact Below.refl _ _) | (with_reducible assumption) | ((with_reducible refine Below.setCell ?_ ?_ _); rotate_left; focus (first | omega | (simp; done) | (simp; omega))) | ((with_reducible refine Below.alloc ?_ ?_ _); rotate_left; focus (first | omega | (simp; done) | (simp; omega))) | (with_reducible refine Below.drew ?_) | (with_reducible refine below_drewN ?_ _) | (refine Below.trans ?_ (Below.mono (by with_reducible assumption) (by (first | omega | (simp; done) | (simp; omega)))))))) (by first | omega | (simp; done) | (simp; omega)))).mono ?_
        rintro e w3 ⟨rfl, hb3⟩
        have hz3 := hb3.size; try simp at hz3
        have BN : Blk w3 w2.heap.size 41 #[.slice D0 d.Safe.length d0, .slice D1 d.Loose.length d1] := by (repeat (first | (with_reducible assumption) | ((with_reducible refine Blk.new' ?_); focus (simp; done)) | (with_reducible refine Blk.alloc ?_ _) | (with_reducible refine Blk.drew ?_) | (with_reducible refine Blk.drewN ?_ _) | ((with_reducible refine Blk.far ?_ ?_ _); rotate_left; focus (first | omega | (simp; done) | (simp; omega))) | (refine Blk.keep ?_ (by with_reducible assumption)) | (refine Blk.below ?_ (by with_reducible assumption) (by (first | omega | (simp; done) | (simp; omega))))))
        replace BK0 : Blk w3 w.heap.size 41 #[.slice A0 d.Safe.length c0, .slice A1 d.Loose.length c1] := by (repeat (first | (with_reducible assumption) | ((with_reducible refine Blk.new' ?_); focus (simp; done)) | (with_reducible refine Blk.alloc ?_ _) | (with_reducible refine Blk.drew ?_) | (with_reducible refine Blk.drewN ?_ _) | ((with_reducible refine Blk.far ?_ ?_ _); rotate_left; focus (first | omega | (simp; done) | (simp; omega))) | (refine Blk.keep ?_ (by with_reducible assumption)) | (refine Blk.below ?_ (by with_reducible assumption) (by (first | omega | (simp; done) | (simp; omega))))))
        replace BK1 : Blk w3 (w.heap.size + 2) 41 #[.slice none 0 0, .slice none 0 0] := by (repeat (first | (with_reducible assumption) | ((with_reducible refine Blk.new' ?_); focus (simp; done)) | (with_reducible refine Blk.alloc ?_ _) | (with_reducible refine Blk.drew ?_) | (with_reducible refine Blk.drewN ?_ _) | ((with_reducible refine Blk.far ?_ ?_ _); rotate_left; focus (first | omega | (simp; done) | (simp; omega))) | (refine Blk.keep ?_ (by with_reducible assumption)) | (refine Blk.below ?_ (by with_reducible assumption) (by (first | omega | (simp; done) | (simp; omega))))))
        replace hc0 := BK0.cell; replace hf0 := BK0.frozen; replace hl0 := BK0.lt; replace hc1 := BK1.cell; replace hf1 := BK1.frozen; replace hl1 := BK1.lt
        have hcN := BN.cell; have hfN := BN.frozen; have hlN := BN.lt
        go_wp2
        refine bodyPost_ret (v := .tuple #[.agg #[.slice D0 d.Safe.length d0, .slice D1 d.Loose.length d1], .bool false]) (by simp [results, Try.results19, go_sem, hc1, hf1]) rfl ⟨[.slice D0 d.Safe.length d0, .slice D1 d.Loose.length d1], rfl, ?_, by (repeat (first | (with_reducible exact Below.refl _ _) | (with_reducible assumption) | ((with_reducible refine Below.setCell ?_ ?_ _); rotate_left; focus (first | omega | (simp; done) | (simp; omega))) | ((with_reducible refine Below.alloc ?_ ?_ _); rotate_left; focus (first | omega | (simp; done) | (simp; omega))) | (with_reducible refine Below.drew ?_) | (with_reducible refine below_drewN ?_ _) | (refine Below.trans ?_ (Below.mono (by with_reducible assumption) (by (first | omega | (simp; done) | (simp; omega)))))))⟩
        refine of_own_Disk (S0 := fun g => (Value.slice D0 d.Safe.length d0).ownBlock = some g) (S1 := fun g => (Value.slice D1 d.Loose.length d1).ownBlock = some g) (of_own_ByteS (base := w1.heap.size) (by (repeat (first | (with_reducible exact ho0) | ((with_reducible refine own_setCell ?_ ?_ _); rotate_left; focus (first | omega | (simp; done) | (simp; omega))) | (with_reducible refine World.ownsRow.alloc ?_ _) | (with_reducible refine own_drew ?_) | (with_reducible refine own_drewN ?_ _) | (refine own_below ?_ (by with_reducible assumption)))))) (of_own_ByteS (base := w1.heap.size) (by (repeat (first | (with_reducible exact ho1) | ((with_reducible refine own_setCell ?_ ?_ _); rotate_left; focus (first | omega | (simp; done) | (simp; omega))) | (with_reducible refine World.ownsRow.alloc ?_ _) | (with_reducible refine own_drew ?_) | (with_reducible refine own_drewN ?_ _) | (refine own_below ?_ (by with_reducible assumption)))))) ?_ ?_ ?_
        · intro g hg; have := ho0.lt g hg; exact ⟨by omega, by first | omega | (simp; omega)⟩
        · intro g hg; have := ho1.lt g hg; exact ⟨by omega, by first | omega | (simp; omega)⟩
        · exact pd
      · rw [hf] at hb
        rw [appD_yes hb, hb]
        obtain ⟨i0, hi0, hI0, hI1, hI2⟩ := info_parts info_uint8
        generalize frameB r = b at *
        have hgt : (d.Safe.length : Int) + d.Loose.length + b.length ≤ 40000 := by (unfold fitB at hf; simp only [decide_eq_true_eq] at hf; omega)
        have H1 := Lib.hid (bytes_one b)
        clear hb he hd hf
        go_enter Try.func19, Try.ntmps19
        go_wp2_with fail
        refine (HF.out _ (RecordR.rd_keep h1 (by (repeat (first | (with_reducible exact Below.refl _ _) | (with_reducible assumption) | ((with_reducible refine Below.setCell ?_ ?_ _); rotate_left; focus (first | omega | (simp; done) | (simp; omega))) | ((with_reducible refine Below.alloc ?_ ?_ _); rotate_left; focus (first | omega | (simp; done) | (simp; omega))) | (with_reducible refine Below.drew ?_) | (with_reducible refine below_drewN ?_ _) | (refine Below.trans ?_ (Below.mono (by with_reducible assumption) (by (first | omega | (simp; done) | (simp; omega)))))))) (by first | omega | (simp; done) | (simp; omega)))).mono ?_
        rintro e w1 ⟨D, dd, rfl, ho, hb1⟩
        have hz1 := hb1.size; try simp at hz1
        have BK0 : Blk w1 w.heap.size 41 #[.slice A0 d.Safe.length c0, .slice A1 d.Loose.length c1] := by (repeat (first | (with_reducible assumption) | ((with_reducible refine Blk.new' ?_); focus (simp; done)) | (with_reducible refine Blk.alloc ?_ _) | (with_reducible refine Blk.drew ?_) | (with_reducible refine Blk.drewN ?_ _) | ((with_reducible refine Blk.far ?_ ?_ _); rotate_left; focus (first | omega | (simp; done) | (simp; omega))) | (refine Blk.keep ?_ (by with_reducible assumption)) | (refine Blk.below ?_ (by with_reducible assumption) (by (first | omega | (simp; done) | (simp; omega))))))
        have BK1 : Blk w1 (w.heap.size + 2) 41 #[.slice none 0 0, .slice none 0 0] := by (repeat (first | (with_reducible assumption) | ((with_reducible refine Blk.new' ?_); focus (simp; done)) | (with_reducible refine Blk.alloc ?_ _) | (with_reducible refine Blk.drew ?_) | (with_reducible refine Blk.drewN ?_ _) | ((with_reducible refine Blk.far ?_ ?_ _); rotate_left; focus (first | omega | (simp; done) | (simp; omega))) | (refine Blk.keep ?_ (by with_reducible assumption)) | (refine Blk.below ?_ (by with_reducible assumption) (by (first | omega | (simp; done) | (simp; omega))))))
        have hc0 := BK0.cell; have hf0 := BK0.frozen; have hl0 := BK0.lt; have hc1 := BK1.cell; have hf1 := BK1.frozen; have hl1 := BK1.lt
        go_wp2_with fail
        refine (HC.out _ (DiskR.rd_keep h0 (by (repeat (first | (with_reducible exact Below.refl _ _) | (with_reducible assumption) | ((with_reducible refine Below.setCell ?_ ?_ _); rotate_left; focus (first | omega | (simp; done) | (simp; omega))) | ((with_reducible refine Below.alloc ?_ ?_ _); rotate_left; focus (first | omega | (simp; done) | (simp; omega))) | (with_reducible refine Below.drew ?_) | (with_reducible refine below_drewN ?_ _) | (refine Below.trans ?_ (Below.mono (by with_reducible assumption) (by (first | omega | (simp; done) | (simp; omega)))))))) (by first | omega | (simp; done) | (simp; omega)))).mono ?_
        rintro e w2 ⟨D0, d0, D1, d1, rfl, ho0, ho1, pd, hb2⟩
        have hz2 := hb2.size; try simp at hz2
        replace BK0 : Blk w2 w.heap.size 41 #[.slice A0 d.Safe.length c0, .slice A1 d.Loose.length c1] := by (repeat (first | (with_reducible assumption) | ((with_reducible refine Blk.new' ?_); focus (simp; done)) | (with_reducible refine Blk.alloc ?_ _) | (with_reducible refine Blk.drew ?_) | (with_reducible refine Blk.drewN ?_ _) | ((with_reducible refine Blk.far ?_ ?_ _); rotate_left; focus (first | omega | (simp; done) | (simp; omega))) | (refine Blk.keep ?_ (by with_reducible assumption)) | (refine Blk.below ?_ (by with_reducible assumption) (by (first | omega | (simp; done) | (simp; omega))))))
        replace BK1 : Blk w2 (w.heap.size + 2) 41 #[.slice none 0 0, .slice none 0 0] := by (repeat (first | (with_reducible assumption) | ((with_reducible refine Blk.new' ?_); focus (simp; done)) | (with_reducible refine Blk.alloc ?_ _) | (with_reducible refine Blk.drew ?_) | (with_reducible refine Blk.drewN ?_ _) | ((with_reducible refine Blk.far ?_ ?_ _); rotate_left; focus (first | omega | (simp; done) | (simp; omega))) | (refine Blk.keep ?_ (by with_reducible assumption)) | (refine Blk.below ?_ (by with_reducible assumption) (by (first | omega | (simp; done) | (simp; omega))))))
        replace hc0 := BK0.cell; replace hf0 := BK0.frozen; replace hl0 := BK0.lt; replace hc1 := BK1.cell; replace hf1 := BK1.frozen; replace hl1 := BK1.lt
        go_wp2_with fail
        refine (HD.out _ (DiskR.rd_keep h0 (by (repeat (first | (with_reducible exact Below.refl _ _) | (with_reducible assumption) | ((with_reducible refine Below.setCell ?_ ?_ _); rotate_left; focus (first | omega | (simp; done) | (simp; omega))) | ((with_reducible refine Below.alloc ?_ ?_ _); rotate_left; focus (first | omega | (simp; done) | (simp; omega))) | (with_reducible refine Below.drew ?_) | (with_reducible refine below_drewN ?_ _) | (refine Below.trans ?_ (Below.mono (by with_reducible assumption) (by (first | omega | (simp; done) | (simp; omega)))))))) (by first | omega | (simp; done) | (simp; omega)))).mono ?_
        rintro e w3 ⟨rfl, hb3⟩
        have hz3 := hb3.size; try simp at hz3
        have BN : Blk w3 w2.heap.size 41 #[.slice D0 d.Safe.length d0, .slice D1 d.Loose.length d1] := by (repeat (first | (with_reducible assumption) | ((with_reducible refine Blk.new' ?_); focus (simp; done)) | (with_reducible refine Blk.alloc ?_ _) | (with_reducible refine Blk.drew ?_) | (with_reducible refine Blk.drewN ?_ _) | ((with_reducible refine Blk.far ?_ ?_ _); rotate_left; focus (first | omega | (simp; done) | (simp; omega))) | (refine Blk.keep ?_ (by with_reducible assumption)) | (refine Blk.below ?_ (by with_reducible assumption) (by (first | omega | (simp; done) | (simp; omega))))))
        replace BK0 : Blk w3 w.heap.size 41 #[.slice A0 d.Safe.length c0, .slice A1 d.Loose.length c1] := by (repeat (first | (with_reducible assumption) | ((with_reducible refine Blk.new' ?_); focus (simp; done)) | (with_reducible refine Blk.alloc ?_ _) | (with_reducible refine Blk.drew ?_) | (with_reducible refine Blk.drewN ?_ _) | ((with_reducible refine Blk.far ?_ ?_ _); rotate_left; focus (first | omega | (simp; done) | (simp; omega))) | (refine Blk.keep ?_ (by with_reducible assumption)) | (refine Blk.below ?_ (by with_reducible assumption) (by (first | omega | (simp; done) | (simp; omega))))))
        replace BK1 : Blk w3 (w.heap.size + 2) 41 #[.slice none 0 0, .slice none 0 0] := by (repeat (first | (with_reducible assumption) | ((with_reducible refine Blk.new' ?_); focus (simp; done)) | (with_reducible refine Blk.alloc ?_ _) | (with_reducible refine Blk.drew ?_) | (with_reducible refine Blk.drewN ?_ _) | ((with_reducible refine Blk.far ?_ ?_ _); rotate_left; focus (first | omega | (simp; done) | (simp; omega))) | (refine Blk.keep ?_ (by with_reducible assumption)) | (refine Blk.below ?_ (by with_reducible assumption) (by (first | omega | (simp; done) | (simp; omega))))))
        replace hc0 := BK0.cell; replace hf0 := BK0.frozen; replace hl0 := BK0.lt; replace hc1 := BK1.cell; replace hf1 := BK1.frozen; replace hl1 := BK1.lt
        have hcN := BN.cell; have hfN := BN.frozen; have hlN := BN.lt
        have own1 : w3.ownsRow w1.heap.size 5 1 (.slice D1 d.Loose.length d1) d.Loose.length (d.Loose.map byteV) := by (repeat (first | (with_reducible exact ho1) | ((with_reducible refine own_setCell ?_ ?_ _); rotate_left; focus (first | omega | (simp; done) | (simp; omega))) | (with_reducible refine World.ownsRow.alloc ?_ _) | (with_reducible refine own_drew ?_) | (with_reducible refine own_drewN ?_ _) | (refine own_below ?_ (by with_reducible assumption))))
        have own0 : w3.ownsRow w1.heap.size 5 1 (.slice D0 d.Safe.length d0) d.Safe.length (d.Safe.map byteV) := by (repeat (first | (with_reducible exact ho0) | ((with_reducible refine own_setCell ?_ ?_ _); rotate_left; focus (first | omega | (simp; done) | (simp; omega))) | (with_reducible refine World.ownsRow.alloc ?_ _) | (with_reducible refine own_drew ?_) | (with_reducible refine own_drewN ?_ _) | (refine own_below ?_ (by with_reducible assumption))))
        have hbx : Below w1.heap.size w1 w3 := by (repeat (first | (with_reducible exact Below.refl _ _) | (with_reducible assumption) | ((with_reducible refine Below.setCell ?_ ?_ _); rotate_left; focus (first | omega | (simp; done) | (simp; omega))) | ((with_reducible refine Below.alloc ?_ ?_ _); rotate_left; focus (first | omega | (simp; done) | (simp; omega))) | (with_reducible refine Below.drew ?_) | (with_reducible refine below_drewN ?_ _) | (refine Below.trans ?_ (Below.mono (by with_reducible assumption) (by (first | omega | (simp; done) | (simp; omega)))))))
        have hrA : Reads w3 w1.heap.size D (b.map byteV) := (Reads.of_own ho).below hbx (Nat.le_refl _)
        go_wp2_with (first | (at_builtin; go_loud (refine wpList_append_reads rfl _ _ 22 rfl w1.heap.size 5 i0 (.int .u8 0) 1 1 Try.underlying22 hi0 hI0 hI1 hI2 rfl (by decide) _ _ _ rfl own1 w1.heap.size D b.length dd (b.map byteV) rfl ?c0 hrA H1.out ?c3 ?c4 ?c5 ?_; (case c0 => rw [List.length_map, Nat.mul_one]); (case c3 => (simp only [maxLen]; omega)); (case c4 => omega); (case c5 => (first | omega | (simp; done) | (simp; omega))); intro v' wA hown1 hgrow hat; obtain ⟨E3, e3, rfl⟩ := own_slice hown1; have hsz := hgrow.size; have BNA := BN.grown hgrow (fun e => absurd (ho1.lt _ e.symm).2 (Nat.lt_irrefl _)); have BKA := BK1.grown hgrow (fun e => absurd (ho1.lt _ e.symm).1 (by omega)); have hcN' := BNA.cell; have hfN' := BNA.frozen; have hlN' := BNA.lt; have hc1' := BKA.cell; have hf1' := BKA.frozen; have hl1' := BKA.lt)))
        have hbA : Below w1.heap.size w1 wA := Below.grown hbx hgrow (by omega) (fun g e => (own1.lt _ e).1)
        have g0 := own_grown' own0 hgrow (fun g hg e => pd g hg e.symm)
        have hown2 : wA.ownsRow w1.heap.size 5 1 (.slice E3 (d.Loose ++ b).length e3) (d.Loose ++ b).length ((d.Loose ++ b).map byteV) := by rw [List.length_append, List.map_append]; exact hown1
        have hblk : ∀ g, (Value.slice E3 (d.Loose ++ b).length e3).ownBlock = some g → (Value.slice D1 d.Loose.length d1).ownBlock = some g ∨ g = w3.heap.size := by
          intro g hg
          rw [List.length_append] at hg
          rcases hat with h | h
          · exact .inl (h ▸ hg)
          · rw [h] at hg; cases hg; exact .inr rfl
        have n3 : ∀ g, (Value.slice E3 (d.Loose ++ b).length e3).ownBlock = some g → g ≠ w2.heap.size := fun g hg => by
          rcases hblk g hg with h | h
          · have := (ho1.lt g h).2; omega
          · omega
        have n0 : ∀ g, (Value.slice D0 d.Safe.length d0).ownBlock = some g → g ≠ w2.heap.size := fun g hg => by have := (ho0.lt g hg).2; omega
        have f0 := own_setCell_off (a := ⟨w2.heap.size, 1, none⟩) g0 n0 (.slice E3 (d.Loose.length + b.length) e3)
        have f3 := own_setCell_off (a := ⟨w2.heap.size, 1, none⟩) hown2 n3 (.slice E3 (d.Loose.length + b.length) e3)
        have ds : ∀ g, (Value.slice D0 d.Safe.length d0).ownBlock = some g → (Value.slice E3 (d.Loose ++ b).length e3).ownBlock = some g → False := fun g hg hg' => by
          rcases hblk g hg' with h | h
          · exact pd g hg h
          · have := (ho0.lt g hg).2; omega
        refine bodyPost_ret (v := .tuple #[.agg #[.slice D0 d.Safe.length d0, .slice E3 (d.Loose ++ b).length e3], .bool true]) (by rw [List.length_append]; simp [results, Try.results19, go_sem, hc1', hf1']) rfl ⟨[.slice D0 d.Safe.length d0, .slice E3 (d.Loose ++ b).length e3], rfl, ?_, by (repeat (first | (with_reducible exact Below.refl _ _) | (with_reducible assumption) | ((with_reducible refine Below.setCell ?_ ?_ _); rotate_left; focus (first | omega | (simp; done) | (simp; omega))) | ((with_reducible refine Below.alloc ?_ ?_ _); rotate_left; focus (first | omega | (simp; done) | (simp; omega))) | (with_reducible refine Below.drew ?_) | (with_reducible refine below_drewN ?_ _) | (refine Below.trans ?_ (Below.mono (by with_reducible assumption) (by (first | omega | (simp; done) | (simp; omega)))))))⟩
        refine of_own_Disk (x := ⟨d.Safe, d.Loose ++ b⟩) (S0 := fun g => (Value.slice D0 d.Safe.length d0).ownBlock = some g) (S1 := fun g => (Value.slice E3 (d.Loose ++ b).length e3).ownBlock = some g) (of_own_ByteS (base := w1.heap.size) (by (repeat (first | (with_reducible exact f0) | ((with_reducible refine own_setCell ?_ ?_ _); rotate_left; focus (first | omega | (simp; done) | (simp; omega))) | (with_reducible refine World.ownsRow.alloc ?_ _) | (with_reducible refine own_drew ?_) | (with_reducible refine own_drewN ?_ _) | (refine own_below ?_ (by with_reducible assumption)))))) (of_own_ByteS (base := w1.heap.size) (by (repeat (first | (with_reducible exact f3) | ((with_reducible refine own_setCell ?_ ?_ _); rotate_left; focus (first | omega | (simp; done) | (simp; omega))) | (with_reducible refine World.ownsRow.alloc ?_ _) | (with_reducible refine own_drew ?_) | (with_reducible refine own_drewN ?_ _) | (refine own_below ?_ (by with_reducible assumption)))))) ?_ ?_ ?_
        · intro g hg; have := g0.lt g hg; exact ⟨by omega, by first | omega | (simp; omega)⟩
        · intro g hg; have := hown2.lt g hg; exact ⟨by omega, by first | omega | (simp; omega)⟩
        · exact ds
end Go.Proofs.Ytndgaakfndokgaa
namespace Go.Proofs.Ytndgaakfndokgaa
open Go.RowKit
set_option maxHeartbeats 6400000 in
theorem impl_RewriteLogL (cs : List Value) (d : Disk) (vl : Value) (rs : List Record) (w : World) (h : DiskR.Rd w w.heap.size cs d) (hs : SlRd RecordR w w.heap.size vl rs) (hm : DiskR.sz d ≤ 1048576) (hms : szList RecordR rs ≤ 1048576) :
    Calls Try.prog 26 #[.agg cs.toArray, vl] w fun e w' => ∃ cs', e = .returned (.tuple #[.agg cs'.toArray, .bool (rewB d rs)]) ∧ DiskR.Own w' (InR w.heap.size w'.heap.size) cs' (rewD d rs) ∧ Below w.heap.size w w' := by
  obtain ⟨v0, v1, rfl, q0, q1⟩ := rd_Disk (_root_.id h)
  obtain ⟨A0, c0, rfl⟩ := q0.form
  obtain ⟨A1, c1, rfl⟩ := q1.form
  obtain ⟨AL, cL, rfl⟩ := hs.form
  obtain ⟨i0, hi0, hI0, hI1, hI2⟩ := info_parts info_uint8
  have HOk := Lib.hid (fun (w' : World) (h : DiskR.Rd w' w'.heap.size [.slice A0 d.Safe.length c0, .slice A1 d.Loose.length c1] d) => impl_isDisk _ d w' h hm)
  have HCp := Lib.hid (fun (w' : World) (h : DiskR.Rd w' w'.heap.size [.slice A0 d.Safe.length c0, .slice A1 d.Loose.length c1] d) => impl_cloneDisk _ d w' h hm)
  have HR := Lib.hid (fun (w' : World) (hb : Below w.heap.size w w') (hz : w.heap.size ≤ w'.heap.size) => DiskR.rd_keep h hb hz)
  have HFr := Lib.hid (fun (k : Nat) (r : Record) (hk : rs[k]? = some r) (cs2 : List Value) (w' : World) (h : RecordR.Rd w' w'.heap.size cs2 r) => impl_frameRecord cs2 r w' h (Nat.le_trans (szList_one hk) hms))
  have hml : rs.length ≤ 1048576 := Nat.le_trans (len_le_sz RecordR rs) hms
  have hRS := fun b => rew_some (d := d) (rs := rs) (b := b)
  have hRN := rew_none (d := d) (rs := rs)
  have hRB := rew_bad (d := d) (rs := rs)
  generalize rewB d rs = RB at *
  generalize rewD d rs = RD at *
  generalize hn : rs.length = n at *
  have Hn := Lib.hid hn
  clear hn hm hms
  cases hok : d.ok
  · have HN := Lib.hid (hRB hok)
    rw [hok] at HOk
    clear hok hRS hRN hRB h q0 q1
    go_enter Try.func26, Try.ntmps26
    go_wp2_with fail
    refine (HOk.out _ (HR.out _ (by (repeat (first | (with_reducible exact Below.refl _ _) | (with_reducible assumption) | ((with_reducible refine Below.setCell ?_ ?_ _); rotate_left; focus (first | omega | (simp; done) | (simp; omega))) | ((with_reducible refine Below.alloc ?_ ?_ _); rotate_left; focus (first | omega | (simp; done) | (simp; omega))) | (with_reducible refine Below.drew ?_) | (with_reducible refine below_drewN ?_ _) | (refine Below.trans ?_ (Below.mono (by with_reducible assumption) (by (first | omega | (simp; done) | (simp; omega)))))))) (by first | omega | (simp; done) | (simp; omega)))).mono ?_
    rintro e w1 ⟨rfl, hb1⟩
    have hz1 := hb1.size; try simp at hz1
    have BK0 : Blk w1 w.heap.size 41 #[.slice A0 d.Safe.length c0, .slice A1 d.Loose.length c1] := by (repeat (first | (with_reducible assumption) | ((with_reducible refine Blk.new' ?_); focus (simp; done)) | (with_reducible refine Blk.alloc ?_ _) | (with_reducible refine Blk.drew ?_) | (with_reducible refine Blk.drewN ?_ _) | ((with_reducible refine Blk.far ?_ ?_ _); rotate_left; focus (first | omega | (simp; done) | (simp; omega))) | (refine Blk.keep ?_ (by with_reducible assumption)) | (refine Blk.below ?_ (by with_reducible assumption) (by (first | omega | (simp; done) | (simp; omega))))))
    have hc0 := BK0.cell; have hf0 := BK0.frozen; have hl0 := BK0.lt
    have BK1 : Blk w1 (w.heap.size + 1) 41 #[.slice none 0 0, .slice none 0 0] := by (repeat (first | (with_reducible assumption) | ((with_reducible refine Blk.new' ?_); focus (simp; done)) | (with_reducible refine Blk.alloc ?_ _) | (with_reducible refine Blk.drew ?_) | (with_reducible refine Blk.drewN ?_ _) | ((with_reducible refine Blk.far ?_ ?_ _); rotate_left; focus (first | omega | (simp; done) | (simp; omega))) | (refine Blk.keep ?_ (by with_reducible assumption)) | (refine Blk.below ?_ (by with_reducible assumption) (by (first | omega | (simp; done) | (simp; omega))))))
    have hc1 := BK1.cell; have hf1 := BK1.frozen; have hl1 := BK1.lt
    go_wp2_with fail
    refine (HCp.out _ (HR.out _ (by (repeat (first | (with_reducible exact Below.refl _ _) | (with_reducible assumption) | ((with_reducible refine Below.setCell ?_ ?_ _); rotate_left; focus (first | omega | (simp; done) | (simp; omega))) | ((with_reducible refine Below.alloc ?_ ?_ _); rotate_left; focus (first | omega | (simp; done) | (simp; omega))) | (with_reducible refine Below.drew ?_) | (with_reducible refine below_drewN ?_ _) | (refine Below.trans ?_ (Below.mono (by with_reducible assumption) (by (first | omega | (simp; done) | (simp; omega)))))))) (by first | omega | (simp; done) | (simp; omega)))).mono ?_
    rintro e w2 ⟨cs2, rfl, ho2, hb2⟩
    have hz2 := hb2.size; try simp at hz2
    replace BK0 : Blk w2 w.heap.size 41 #[.slice A0 d.Safe.length c0, .slice A1 d.Loose.length c1] := by (repeat (first | (with_reducible assumption) | ((with_reducible refine Blk.new' ?_); focus (simp; done)) | (with_reducible refine Blk.alloc ?_ _) | (with_reducible refine Blk.drew ?_) | (with_reducible refine Blk.drewN ?_ _) | ((with_reducible refine Blk.far ?_ ?_ _); rotate_left; focus (first | omega | (simp; done) | (simp; omega))) | (refine Blk.keep ?_ (by with_reducible assumption)) | (refine Blk.below ?_ (by with_reducible assumption) (by (first | omega | (simp; done) | (simp; omega))))))
    replace hc0 := BK0.cell; replace hf0 := BK0.frozen; replace hl0 := BK0.lt
    replace BK1 : Blk w2 (w.heap.size + 1) 41 #[.slice none 0 0, .slice none 0 0] := by (repeat (first | (with_reducible assumption) | ((with_reducible refine Blk.new' ?_); focus (simp; done)) | (with_reducible refine Blk.alloc ?_ _) | (with_reducible refine Blk.drew ?_) | (with_reducible refine Blk.drewN ?_ _) | ((with_reducible refine Blk.far ?_ ?_ _); rotate_left; focus (first | omega | (simp; done) | (simp; omega))) | (refine Blk.keep ?_ (by with_reducible assumption)) | (refine Blk.below ?_ (by with_reducible assumption) (by (first | omega | (simp; done) | (simp; omega))))))
    replace hc1 := BK1.cell; replace hf1 := BK1.frozen; replace hl1 := BK1.lt
    obtain ⟨_, _, _, _, rfl, p0, p1, -⟩ := own_Disk (_root_.id ho2)
    obtain ⟨D0, d0, rfl⟩ := p0.form
    obtain ⟨D1, d1, rfl⟩ := p1.form
    go_wp2
    refine bodyPost_ret (v := .tuple #[.agg #[.slice D0 d.Safe.length d0, .slice D1 d.Loose.length d1], .bool false]) (by simp [results, Try.results26, go_sem, hc1, hf1]) rfl ⟨[.slice D0 d.Safe.length d0, .slice D1 d.Loose.length d1], by rw [HN.out.1], ?_, by (repeat (first | (with_reducible exact Below.refl _ _) | (with_reducible assumption) | ((with_reducible refine Below.setCell ?_ ?_ _); rotate_left; focus (first | omega | (simp; done) | (simp; omega))) | ((with_reducible refine Below.alloc ?_ ?_ _); rotate_left; focus (first | omega | (simp; done) | (simp; omega))) | (with_reducible refine Below.drew ?_) | (with_reducible refine below_drewN ?_ _) | (refine Below.trans ?_ (Below.mono (by with_reducible assumption) (by (first | omega | (simp; done) | (simp; omega)))))))⟩
    rw [HN.out.2]
    exact DiskR.own_wide (DiskR.own_off ho2 (by (repeat (first | (with_reducible exact Out.refl _ _) | (with_reducible assumption) | ((with_reducible refine Out.setCell ?_ ?_ _); rotate_left; focus (first | (refine Or.inl ?_; (first | omega | (simp; done) | (simp; omega))) | (refine Or.inr ?_; (first | omega | (simp; done) | (simp; omega))))) | (with_reducible refine Out.alloc ?_ _) | (with_reducible refine Out.drew ?_) | (with_reducible refine Out.drewN ?_ _) | (refine Out.step ?_ (by with_reducible assumption)))))) (inR_mono (by first | omega | (simp; done) | (simp; omega)) (by first | omega | (simp; done) | (simp; omega)))
  have HRS := Lib.hid (fun b h2 => hRS b hok h2)
  have HRN := Lib.hid hRN
  rw [hok] at HOk
  clear hok hRS hRN hRB h q0 q1
  go_enter Try.func26, Try.ntmps26
  go_wp2_with fail
  refine (HOk.out _ (HR.out _ (by (repeat (first | (with_reducible exact Below.refl _ _) | (with_reducible assumption) | ((with_reducible refine Below.setCell ?_ ?_ _); rotate_left; focus (first | omega | (simp; done) | (simp; omega))) | ((with_reducible refine Below.alloc ?_ ?_ _); rotate_left; focus (first | omega | (simp; done) | (simp; omega))) | (with_reducible refine Below.drew ?_) | (with_reducible refine below_drewN ?_ _) | (refine Below.trans ?_ (Below.mono (by with_reducible assumption) (by (first | omega | (simp; done) | (simp; omega)))))))) (by first | omega | (simp; done) | (simp; omega)))).mono ?_
  rintro e w1 ⟨rfl, hb1⟩
  have hz1 := hb1.size; try simp at hz1
  have BK0 : Blk w1 w.heap.size 41 #[.slice A0 d.Safe.length c0, .slice A1 d.Loose.length c1] := by (repeat (first | (with_reducible assumption) | ((with_reducible refine Blk.new' ?_); focus (simp; done)) | (with_reducible refine Blk.alloc ?_ _) | (with_reducible refine Blk.drew ?_) | (with_reducible refine Blk.drewN ?_ _) | ((with_reducible refine Blk.far ?_ ?_ _); rotate_left; focus (first | omega | (simp; done) | (simp; omega))) | (refine Blk.keep ?_ (by with_reducible assumption)) | (refine Blk.below ?_ (by with_reducible assumption) (by (first | omega | (simp; done) | (simp; omega))))))
  have hc0 := BK0.cell; have hf0 := BK0.frozen; have hl0 := BK0.lt
  have BK1 : Blk w1 (w.heap.size + 1) 41 #[.slice none 0 0, .slice none 0 0] := by (repeat (first | (with_reducible assumption) | ((with_reducible refine Blk.new' ?_); focus (simp; done)) | (with_reducible refine Blk.alloc ?_ _) | (with_reducible refine Blk.drew ?_) | (with_reducible refine Blk.drewN ?_ _) | ((with_reducible refine Blk.far ?_ ?_ _); rotate_left; focus (first | omega | (simp; done) | (simp; omega))) | (refine Blk.keep ?_ (by with_reducible assumption)) | (refine Blk.below ?_ (by with_reducible assumption) (by (first | omega | (simp; done) | (simp; omega))))))
  have hc1 := BK1.cell; have hf1 := BK1.frozen; have hl1 := BK1.lt
  have hbw1 : Below w.heap.size w w1 := by (repeat (first | (with_reducible exact Below.refl _ _) | (with_reducible assumption) | ((with_reducible refine Below.setCell ?_ ?_ _); rotate_left; focus (first | omega | (simp; done) | (simp; omega))) | ((with_reducible refine Below.alloc ?_ ?_ _); rotate_left; focus (first | omega | (simp; done) | (simp; omega))) | (with_reducible refine Below.drew ?_) | (with_reducible refine below_drewN ?_ _) | (refine Below.trans ?_ (Below.mono (by with_reducible assumption) (by (first | omega | (simp; done) | (simp; omega)))))))
  go_wp2
  go_loopw [18] (fun i wr => ∃ (k : Nat) (acc : List UInt8) (A2 : Option Addr) (c2 : Nat), k ≤ n ∧ acc.length ≤ 40000 ∧ i = .int .i64 k ∧ Below w.heap.size w wr ∧ w1.heap.size + 1 ≤ wr.heap.size ∧ Blk wr w.heap.size 41 #[.slice A0 d.Safe.length c0, .slice A1 d.Loose.length c1] ∧ Blk wr (w.heap.size + 1) 41 #[.slice none 0 0, .slice none 0 0] ∧ Blk wr w1.heap.size 41 #[.slice A2 acc.length c2, .slice none 0 0] ∧ Hid (wr.ownsRow (w1.heap.size + 1) 5 1 (.slice A2 acc.length c2) acc.length (acc.map byteV)) ∧ Hid (rewA rs [] = rewA (rs.drop k) acc)) (fun i _ => n - (intOf i).toNat)
  case atStart => exact ⟨0, [], none, 0, Nat.zero_le _, by simp, rfl, by (repeat (first | (with_reducible exact Below.refl _ _) | (with_reducible assumption) | ((with_reducible refine Below.setCell ?_ ?_ _); rotate_left; focus (first | omega | (simp; done) | (simp; omega))) | ((with_reducible refine Below.alloc ?_ ?_ _); rotate_left; focus (first | omega | (simp; done) | (simp; omega))) | (with_reducible refine Below.drew ?_) | (with_reducible refine below_drewN ?_ _) | (refine Below.trans ?_ (Below.mono (by with_reducible assumption) (by (first | omega | (simp; done) | (simp; omega))))))), by simp, by (repeat (first | (with_reducible assumption) | ((with_reducible refine Blk.new' ?_); focus (simp; done)) | (with_reducible refine Blk.alloc ?_ _) | (with_reducible refine Blk.drew ?_) | (with_reducible refine Blk.drewN ?_ _) | ((with_reducible refine Blk.far ?_ ?_ _); rotate_left; focus (first | omega | (simp; done) | (simp; omega))) | (refine Blk.keep ?_ (by with_reducible assumption)) | (refine Blk.below ?_ (by with_reducible assumption) (by (first | omega | (simp; done) | (simp; omega)))))), by (repeat (first | (with_reducible assumption) | ((with_reducible refine Blk.new' ?_); focus (simp; done)) | (with_reducible refine Blk.alloc ?_ _) | (with_reducible refine Blk.drew ?_) | (with_reducible refine Blk.drewN ?_ _) | ((with_reducible refine Blk.far ?_ ?_ _); rotate_left; focus (first | omega | (simp; done) | (simp; omega))) | (refine Blk.keep ?_ (by with_reducible assumption)) | (refine Blk.below ?_ (by with_reducible assumption) (by (first | omega | (simp; done) | (simp; omega)))))), (by (repeat (first | (with_reducible assumption) | ((with_reducible refine Blk.new' ?_); focus (simp; done)) | (with_reducible refine Blk.alloc ?_ _) | (with_reducible refine Blk.drew ?_) | (with_reducible refine Blk.drewN ?_ _) | ((with_reducible refine Blk.far ?_ ?_ _); rotate_left; focus (first | omega | (simp; done) | (simp; omega))) | (refine Blk.keep ?_ (by with_reducible assumption)) | (refine Blk.below ?_ (by with_reducible assumption) (by (first | omega | (simp; done) | (simp; omega)))))) : Blk _ _ 41 #[.slice none 0 0, .slice none 0 0]), Lib.hid (World.ownsRow_nil _ _ _ _), Lib.hid rfl⟩
  case round =>
    clear hbw1 hb1 BK0 BK1 hc0 hf0 hl0 hc1 hf1 hl1
    obtain ⟨k, acc, A2, c2, hk, hacc, rfl, hb, hzr, BK0, BK1, BO, HI, hinv⟩ := hrel
    have hc0 := BK0.cell; have hf0 := BK0.frozen; have hl0 := BK0.lt; have hc1 := BK1.cell; have hf1 := BK1.frozen; have hl1 := BK1.lt; have hcO := BO.cell; have hfO := BO.frozen; have hlO := BO.lt
    by_cases hlt : k < n
    rotate_left
    · have HY := Lib.hid (HRS.out acc (by rw [hinv.out, List.drop_of_length_le (by rw [Hn.out]; omega)]; rfl))
      have hir := HI.out
      go_wp2
      refine bodyPost_ret (v := .tuple #[.agg #[.slice A2 acc.length c2, .slice none 0 0], .bool true]) (by simp [results, Try.results26, go_sem, hc1, hf1, hcO, hfO]) rfl ⟨[.slice A2 acc.length c2, .slice none 0 0], by rw [HY.out.1], ?_, by (repeat (first | (with_reducible exact Below.refl _ _) | (with_reducible assumption) | ((with_reducible refine Below.setCell ?_ ?_ _); rotate_left; focus (first | omega | (simp; done) | (simp; omega))) | ((with_reducible refine Below.alloc ?_ ?_ _); rotate_left; focus (first | omega | (simp; done) | (simp; omega))) | (with_reducible refine Below.drew ?_) | (with_reducible refine below_drewN ?_ _) | (refine Below.trans ?_ (Below.mono (by with_reducible assumption) (by (first | omega | (simp; done) | (simp; omega)))))))⟩
      rw [HY.out.2]
      have hS := of_own_in_ByteS hir
      refine DiskR.own_wide (DiskR.own_off (of_own_Disk (x := ⟨acc, []⟩) hS (SlOwn.nil _ _ _ (fun _ => False)) (fun _ h => h) (fun _ h => h.elim) (fun _ _ h => h)) (by (repeat (first | (with_reducible exact Out.refl _ _) | (with_reducible assumption) | ((with_reducible refine Out.setCell ?_ ?_ _); rotate_left; focus (first | (refine Or.inl ?_; (first | omega | (simp; done) | (simp; omega))) | (refine Or.inr ?_; (first | omega | (simp; done) | (simp; omega))))) | (with_reducible refine Out.alloc ?_ _) | (with_reducible refine Out.drew ?_) | (with_reducible refine Out.drewN ?_ _) | (refine Out.step ?_ (by with_reducible assumption)))))) (inR_mono (by first | omega | (simp; done) | (simp; omega)) (by first | omega | (simp; done) | (simp; omega)))
    have hlx : k < rs.length := by rw [Hn.out]; exact hlt
    have HX := Lib.hid (List.getElem?_eq_getElem hlx)
    have HDr := Lib.hid (List.drop_eq_getElem_cons hlx)
    generalize rs[k]'hlx = r at HX HDr
    clear hlx
    obtain ⟨b, off, csr, rfl, hab, hrd, hcell⟩ := (hs.below hb (Nat.le_refl _)).elem HX.out
    have hrd2 := Lib.hid (fun (w' : World) (hb2 : Below wr.heap.size wr w') => RecordR.rd_keep (RecordR.rd_more hrd hb.size) hb2 hb2.size)
    obtain ⟨_, _, rfl, q0, q1⟩ := rd_Record hrd
    obtain ⟨R1, e1, rfl⟩ := q0.form
    obtain ⟨R2, e2, rfl⟩ := q1.form
    have hx0 : wr.cell? ⟨b, off + k * 3, none⟩ = some (.int .i64 r.Kind) := hcell 0 _ rfl
    have hx1 : wr.cell? ⟨b, off + k * 3 + 1, none⟩ = some (.slice R1 r.Nums.length e1) := hcell 1 _ rfl
    have hx2 : wr.cell? ⟨b, off + k * 3 + 2, none⟩ = some (.slice R2 r.Texts.length e2) := hcell 2 _ rfl
    clear hcell q0 q1 hrd
    have hle := frameB_le r
    go_wp2_with fail
    refine (HFr.out k r HX.out _ _ (hrd2.out _ (by (repeat (first | (with_reducible exact Below.refl _ _) | (with_reducible assumption) | ((with_reducible refine Below.setCell ?_ ?_ _); rotate_left; focus (first | omega | (simp; done) | (simp; omega))) | ((with_reducible refine Below.alloc ?_ ?_ _); rotate_left; focus (first | omega | (simp; done) | (simp; omega))) | (with_reducible refine Below.drew ?_) | (with_reducible refine below_drewN ?_ _) | (refine Below.trans ?_ (Below.mono (by with_reducible assumption) (by (first | omega | (simp; done) | (simp; omega)))))))))).mono ?_
    rintro e w2 ⟨AF, cF, rfl, ho2, hb2⟩
    have hbr2 : Below wr.heap.size wr w2 := by (repeat (first | (with_reducible exact Below.refl _ _) | (with_reducible assumption) | ((with_reducible refine Below.setCell ?_ ?_ _); rotate_left; focus (first | omega | (simp; done) | (simp; omega))) | ((with_reducible refine Below.alloc ?_ ?_ _); rotate_left; focus (first | omega | (simp; done) | (simp; omega))) | (with_reducible refine Below.drew ?_) | (with_reducible refine below_drewN ?_ _) | (refine Below.trans ?_ (Below.mono (by with_reducible assumption) (by (first | omega | (simp; done) | (simp; omega)))))))
    have hz2 := hb2.size; try simp at hz2
    replace BK0 : Blk w2 w.heap.size 41 #[.slice A0 d.Safe.length c0, .slice A1 d.Loose.length c1] := by (repeat (first | (with_reducible assumption) | ((with_reducible refine Blk.new' ?_); focus (simp; done)) | (with_reducible refine Blk.alloc ?_ _) | (with_reducible refine Blk.drew ?_) | (with_reducible refine Blk.drewN ?_ _) | ((with_reducible refine Blk.far ?_ ?_ _); rotate_left; focus (first | omega | (simp; done) | (simp; omega))) | (refine Blk.keep ?_ (by with_reducible assumption)) | (refine Blk.below ?_ (by with_reducible assumption) (by (first | omega | (simp; done) | (simp; omega))))))
    replace hc0 := BK0.cell; replace hf0 := BK0.frozen; replace hl0 := BK0.lt
    replace BK1 : Blk w2 (w.heap.size + 1) 41 #[.slice none 0 0, .slice none 0 0] := by (repeat (first | (with_reducible assumption) | ((with_reducible refine Blk.new' ?_); focus (simp; done)) | (with_reducible refine Blk.alloc ?_ _) | (with_reducible refine Blk.drew ?_) | (with_reducible refine Blk.drewN ?_ _) | ((with_reducible refine Blk.far ?_ ?_ _); rotate_left; focus (first | omega | (simp; done) | (simp; omega))) | (refine Blk.keep ?_ (by with_reducible assumption)) | (refine Blk.below ?_ (by with_reducible assumption) (by (first | omega | (simp; done) | (simp; omega))))))
    replace hc1 := BK1.cell; replace hf1 := BK1.frozen; replace hl1 := BK1.lt
    replace BKO : Blk w2 w1.heap.size 41 #[.slice A2 acc.length c2, .slice none 0 0] := by (repeat (first | (with_reducible assumption) | ((with_reducible refine Blk.new' ?_); focus (simp; done)) | (with_reducible refine Blk.alloc ?_ _) | (with_reducible refine Blk.drew ?_) | (with_reducible refine Blk.drewN ?_ _) | ((with_reducible refine Blk.far ?_ ?_ _); rotate_left; focus (first | omega | (simp; done) | (simp; omega))) | (refine Blk.keep ?_ (by with_reducible assumption)) | (refine Blk.below ?_ (by with_reducible assumption) (by (first | omega | (simp; done) | (simp; omega))))))
    replace hcO := BKO.cell; replace hfO := BKO.frozen; replace hlO := BKO.lt
    have HSt : Hid (rewA rs [] = match encOk r && decide (acc.length + (frameB r).length ≤ 40000) with | true => rewA (rs.drop (k + 1)) (acc ++ frameB r) | false => none) := Lib.hid (by rw [hinv.out, HDr.out, rewA] <;> rfl)
    have H1 := Lib.hid (bytes_one (frameB r))
    cases he : encOk r
    · have HN := Lib.hid (HRN.out (by rw [HSt.out, he]; rfl))
      clear HSt he
      go_wp2_with fail
      refine (HCp.out _ (HR.out _ (by (repeat (first | (with_reducible exact Below.refl _ _) | (with_reducible assumption) | ((with_reducible refine Below.setCell ?_ ?_ _); rotate_left; focus (first | omega | (simp; done) | (simp; omega))) | ((with_reducible refine Below.alloc ?_ ?_ _); rotate_left; focus (first | omega | (simp; done) | (simp; omega))) | (with_reducible refine Below.drew ?_) | (with_reducible refine below_drewN ?_ _) | (refine Below.trans ?_ (Below.mono (by with_reducible assumption) (by (first | omega | (simp; done) | (simp; omega)))))))) (by first | omega | (simp; done) | (simp; omega)))).mono ?_
      rintro e w3 ⟨cs3, rfl, ho3, hb3⟩
      have hz3 := hb3.size; try simp at hz3
      replace BK0 : Blk w3 w.heap.size 41 #[.slice A0 d.Safe.length c0, .slice A1 d.Loose.length c1] := by (repeat (first | (with_reducible assumption) | ((with_reducible refine Blk.new' ?_); focus (simp; done)) | (with_reducible refine Blk.alloc ?_ _) | (with_reducible refine Blk.drew ?_) | (with_reducible refine Blk.drewN ?_ _) | ((with_reducible refine Blk.far ?_ ?_ _); rotate_left; focus (first | omega | (simp; done) | (simp; omega))) | (refine Blk.keep ?_ (by with_reducible assumption)) | (refine Blk.below ?_ (by with_reducible assumption) (by (first | omega | (simp; done) | (simp; omega))))))
      replace hc0 := BK0.cell; replace hf0 := BK0.frozen; replace hl0 := BK0.lt
      replace BK1 : Blk w3 (w.heap.size + 1) 41 #[.slice none 0 0, .slice none 0 0] := by (repeat (first | (with_reducible assumption) | ((with_reducible refine Blk.new' ?_); focus (simp; done)) | (with_reducible refine Blk.alloc ?_ _) | (with_reducible refine Blk.drew ?_) | (with_reducible refine Blk.drewN ?_ _) | ((with_reducible refine Blk.far ?_ ?_ _); rotate_left; focus (first | omega | (simp; done) | (simp; omega))) | (refine Blk.keep ?_ (by with_reducible assumption)) | (refine Blk.below ?_ (by with_reducible assumption) (by (first | omega | (simp; done) | (simp; omega))))))
      replace hc1 := BK1.cell; replace hf1 := BK1.frozen; replace hl1 := BK1.lt
      replace BKO : Blk w3 w1.heap.size 41 #[.slice A2 acc.length c2, .slice none 0 0] := by (repeat (first | (with_reducible assumption) | ((with_reducible refine Blk.new' ?_); focus (simp; done)) | (with_reducible refine Blk.alloc ?_ _) | (with_reducible refine Blk.drew ?_) | (with_reducible refine Blk.drewN ?_ _) | ((with_reducible refine Blk.far ?_ ?_ _); rotate_left; focus (first | omega | (simp; done) | (simp; omega))) | (refine Blk.keep ?_ (by with_reducible assumption)) | (refine Blk.below ?_ (by with_reducible assumption) (by (first | omega | (simp; done) | (simp; omega))))))
      replace hcO := BKO.cell; replace hfO := BKO.frozen; replace hlO := BKO.lt
      obtain ⟨_, _, _, _, rfl, p0, p1, -⟩ := own_Disk (_root_.id ho3)
      obtain ⟨D0, d0, rfl⟩ := p0.form
      obtain ⟨D1, d1, rfl⟩ := p1.form
      go_wp2
      refine bodyPost_ret (v := .tuple #[.agg #[.slice D0 d.Safe.length d0, .slice D1 d.Loose.length d1], .bool false]) (by simp [results, Try.results26, go_sem, hc1, hf1]) rfl ⟨[.slice D0 d.Safe.length d0, .slice D1 d.Loose.length d1], by rw [HN.out.1], ?_, by (repeat (first | (with_reducible exact Below.refl _ _) | (with_reducible assumption) | ((with_reducible refine Below.setCell ?_ ?_ _); rotate_left; focus (first | omega | (simp; done) | (simp; omega))) | ((with_reducible refine Below.alloc ?_ ?_ _); rotate_left; focus (first | omega | (simp; done) | (simp; omega))) | (with_reducible refine Below.drew ?_) | (with_reducible refine below_drewN ?_ _) | (refine Below.trans ?_ (Below.mono (by with_reducible assumption) (by (first | omega | (simp; done) | (simp; omega)))))))⟩
      rw [HN.out.2]
      exact DiskR.own_wide (DiskR.own_off ho3 (by (repeat (first | (with_reducible exact Out.refl _ _) | (with_reducible assumption) | ((with_reducible refine Out.setCell ?_ ?_ _); rotate_left; focus (first | (refine Or.inl ?_; (first | omega | (simp; done) | (simp; omega))) | (refine Or.inr ?_; (first | omega | (simp; done) | (simp; omega))))) | (with_reducible refine Out.alloc ?_ _) | (with_reducible refine Out.drew ?_) | (with_reducible refine Out.drewN ?_ _) | (refine Out.step ?_ (by with_reducible assumption)))))) (inR_mono (by first | omega | (simp; done) | (simp; omega)) (by first | omega | (simp; done) | (simp; omega)))
    by_cases hfit : acc.length + (frameB r).length ≤ 40000
    rotate_left
    · have HN := Lib.hid (HRN.out (by rw [HSt.out, he, decide_eq_false hfit]; rfl))
      clear HSt he
      go_wp2_with fail
      refine (HCp.out _ (HR.out _ (by (repeat (first | (with_reducible exact Below.refl _ _) | (with_reducible assumption) | ((with_reducible refine Below.setCell ?_ ?_ _); rotate_left; focus (first | omega | (simp; done) | (simp; omega))) | ((with_reducible refine Below.alloc ?_ ?_ _); rotate_left; focus (first | omega | (simp; done) | (simp; omega))) | (with_reducible refine Below.drew ?_) | (with_reducible refine below_drewN ?_ _) | (refine Below.trans ?_ (Below.mono (by with_reducible assumption) (by (first | omega | (simp; done) | (simp; omega)))))))) (by first | omega | (simp; done) | (simp; omega)))).mono ?_
      rintro e w3 ⟨cs3, rfl, ho3, hb3⟩
      have hz3 := hb3.size; try simp at hz3
      replace BK0 : Blk w3 w.heap.size 41 #[.slice A0 d.Safe.length c0, .slice A1 d.Loose.length c1] := by (repeat (first | (with_reducible assumption) | ((with_reducible refine Blk.new' ?_); focus (simp; done)) | (with_reducible refine Blk.alloc ?_ _) | (with_reducible refine Blk.drew ?_) | (with_reducible refine Blk.drewN ?_ _) | ((with_reducible refine Blk.far ?_ ?_ _); rotate_left; focus (first | omega | (simp; done) | (simp; omega))) | (refine Blk.keep ?_ (by with_reducible assumption)) | (refine Blk.below ?_ (by with_reducible assumption) (by (first | omega | (simp; done) | (simp; omega))))))
      replace hc0 := BK0.cell; replace hf0 := BK0.frozen; replace hl0 := BK0.lt
      replace BK1 : Blk w3 (w.heap.size + 1) 41 #[.slice none 0 0, .slice none 0 0] := by (repeat (first | (with_reducible assumption) | ((with_reducible refine Blk.new' ?_); focus (simp; done)) | (with_reducible refine Blk.alloc ?_ _) | (with_reducible refine Blk.drew ?_) | (with_reducible refine Blk.drewN ?_ _) | ((with_reducible refine Blk.far ?_ ?_ _); rotate_left; focus (first | omega | (simp; done) | (simp; omega))) | (refine Blk.keep ?_ (by with_reducible assumption)) | (refine Blk.below ?_ (by with_reducible assumption) (by (first | omega | (simp; done) | (simp; omega))))))
      replace hc1 := BK1.cell; replace hf1 := BK1.frozen; replace hl1 := BK1.lt
      replace BKO : Blk w3 w1.heap.size 41 #[.slice A2 acc.length c2, .slice none 0 0] := by (repeat (first | (with_reducible assumption) | ((with_reducible refine Blk.new' ?_); focus (simp; done)) | (with_reducible refine Blk.alloc ?_ _) | (with_reducible refine Blk.drew ?_) | (with_reducible refine Blk.drewN ?_ _) | ((with_reducible refine Blk.far ?_ ?_ _); rotate_left; focus (first | omega | (simp; done) | (simp; omega))) | (refine Blk.keep ?_ (by with_reducible assumption)) | (refine Blk.below ?_ (by with_reducible assumption) (by (first | omega | (simp; done) | (simp; omega))))))
      replace hcO := BKO.cell; replace hfO := BKO.frozen; replace hlO := BKO.lt
      obtain ⟨_, _, _, _, rfl, p0, p1, -⟩ := own_Disk (_root_.id ho3)
      obtain ⟨D0, d0, rfl⟩ := p0.form
      obtain ⟨D1, d1, rfl⟩ := p1.form
      go_wp2
      refine bodyPost_ret (v := .tuple #[.agg #[.slice D0 d.Safe.length d0, .slice D1 d.Loose.length d1], .bool false]) (by simp [results, Try.results26, go_sem, hc1, hf1]) rfl ⟨[.slice D0 d.Safe.length d0, .slice D1 d.Loose.length d1], by rw [HN.out.1], ?_, by (repeat (first | (with_reducible exact Below.refl _ _) | (with_reducible assumption) | ((with_reducible refine Below.setCell ?_ ?_ _); rotate_left; focus (first | omega | (simp; done) | (simp; omega))) | ((with_reducible refine Below.alloc ?_ ?_ _); rotate_left; focus (first | omega | (simp; done) | (simp; omega))) | (with_reducible refine Below.drew ?_) | (with_reducible refine below_drewN ?_ _) | (refine Below.trans ?_ (Below.mono (by with_reducible assumption) (by (first | omega | (simp; done) | (simp; omega)))))))⟩
      rw [HN.out.2]
      exact DiskR.own_wide (DiskR.own_off ho3 (by (repeat (first | (with_reducible exact Out.refl _ _) | (with_reducible assumption) | ((with_reducible refine Out.setCell ?_ ?_ _); rotate_left; focus (first | (refine Or.inl ?_; (first | omega | (simp; done) | (simp; omega))) | (refine Or.inr ?_; (first | omega | (simp; done) | (simp; omega))))) | (with_reducible refine Out.alloc ?_ _) | (with_reducible refine Out.drew ?_) | (with_reducible refine Out.drewN ?_ _) | (refine Out.step ?_ (by with_reducible assumption)))))) (inR_mono (by first | omega | (simp; done) | (simp; omega)) (by first | omega | (simp; done) | (simp; omega)))
    have HG : Hid (rewA rs [] = rewA (rs.drop (k + 1)) (acc ++ frameB r)) := Lib.hid (by rw [HSt.out, he, decide_eq_true hfit]; rfl)
    have hir := own_below HI.out hbr2
    have hirlt : ∀ q, (Value.slice A2 acc.length c2).ownBlock = some q → w1.heap.size + 1 ≤ q ∧ q < wr.heap.size := fun q e => HI.out.lt q e
    have hrF := Reads.of_own ho2
    clear HSt he
    go_wp2_with (first | (at_builtin; go_loud (refine wpList_append_reads rfl _ _ 22 rfl (w1.heap.size + 1) 5 i0 (.int .u8 0) 1 1 Try.underlying22 hi0 hI0 hI1 hI2 rfl (by decide) _ _ _ rfl hir w2.heap.size AF (frameB r).length cF ((frameB r).map byteV) rfl ?c0 hrF H1.out ?c3 ?c4 ?c5 ?_; (case c0 => rw [List.length_map, Nat.mul_one]); (case c3 => (simp only [maxLen]; omega)); (case c4 => omega); (case c5 => (first | omega | (simp; done) | (simp; omega))); intro v' wA hown1 hgrow hat; obtain ⟨A3, c3, rfl⟩ := own_slice hown1; have BOA : Blk wA w1.heap.size 41 #[.slice A2 acc.length c2, .slice none 0 0] := (BKO.grown hgrow (fun e => by have := (hirlt _ e.symm).1; omega)); have hcA := BOA.cell; have hfA := BOA.frozen)))
    go_roundw
    case rel =>
      have hzg := hgrow.size
      have BOB := BOA.set_ 0 (.slice A3 (acc.length + (frameB r).length) c3)
      have hbw2 : Below w.heap.size w w2 := hb.trans (hbr2.mono hb.size)
      have hne : ∀ q, q < w1.heap.size + 1 → some q ≠ (Value.slice A2 acc.length c2).ownBlock := fun q hq e => by have := (hirlt _ e.symm).1; omega
      refine ⟨k + 1, acc ++ frameB r, A3, c3, by omega, by rw [List.length_append]; exact hfit, by go_num, ?_, by simp; omega, ?_, ?_, ?_, Lib.hid ?_, Lib.hid HG.out⟩
      · exact (Below.grown hbw2 hgrow (by omega) (fun q e => by have := hirlt q e; omega)).setCell (by simp; try omega) _
      · exact (BK0.grown hgrow (hne _ (by omega))).far (by simp; omega) _
      · exact (BK1.grown hgrow (hne _ (by omega))).far (by simp; omega) _
      · rw [List.length_append]; simpa using BOB
      · rw [List.length_append, List.map_append]
        exact own_setCell hown1 (by simp) _
    case measure => simp [intOf]; omega
end Go.Proofs.Ytndgaakfndokgaa

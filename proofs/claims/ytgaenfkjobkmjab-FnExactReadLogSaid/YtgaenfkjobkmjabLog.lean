/- Disks: DiskOk, copies, SyncLog, CrashLog. -/
import Derived.Test.YtgaenfkjobkmjabBytes
import Derived.Test.YtgaenfkjobkmjabDisk2
set_option linter.unusedSimpArgs false
set_option linter.unusedVariables false
set_option maxRecDepth 20000
namespace Go.Proofs.Ytgaenfkjobkmjab
open Go.RowKit
def Disk.ok (d : Disk) : Bool := decide (d.Safe.length + d.Loose.length ≤ 40000)
theorem len_sz_Disk {d : Disk} {n : Nat} (h : DiskR.sz d ≤ n) : d.Safe.length + d.Loose.length ≤ n := by rw [sz_Disk, sz_ByteS, sz_ByteS] at h; exact h
set_option maxHeartbeats 400000 in
theorem spec_DiskOk (cs : List Value) (d : Disk) (w : World) (h : DiskR.Rd w w.heap.size cs d) (hm : DiskR.sz d ≤ 1048576) :
    Calls Try.prog 14 #[.agg cs.toArray] w fun e w' => e = .returned (.bool d.ok) ∧ Below w.heap.size w w' := by
  obtain ⟨v0, v1, rfl, q0, q1⟩ := rd_Disk h
  obtain ⟨A0, c0, rfl⟩ := q0.form
  obtain ⟨A1, c1, rfl⟩ := q1.form
  have hl := len_sz_Disk hm
  have HD : Hid (d.ok = decide (d.Safe.length + d.Loose.length ≤ 40000)) := rfl
  generalize d.Safe.length = n at *
  generalize d.Loose.length = n' at *
  by_cases h1 : n ≤ 40000
  · go_enter Try.func14, Try.ntmps14
    go_wp2
    go_ret
    exact ⟨ret_bool (by rw [HD.out]; simp; omega), by (repeat (first | (with_reducible exact Below.refl _ _) | (with_reducible assumption) | ((with_reducible refine Below.setCell ?_ ?_ _); rotate_left; focus (first | omega | (simp; done) | (simp; omega))) | ((with_reducible refine Below.alloc ?_ ?_ _); rotate_left; focus (first | omega | (simp; done) | (simp; omega))) | (with_reducible refine Below.drew ?_) | (with_reducible refine below_drewN ?_ _) | (refine Below.trans ?_ (Below.mono (by with_reducible assumption) (by (first | omega | (simp; done) | (simp; omega)))))))⟩
  · have hd : decide (n ≤ 40000) = false := by simp; omega
    have hd2 : decide ((n : Int) ≤ 40000) = false := by simp; omega
    go_enter Try.func14, Try.ntmps14
    go_wp2
    go_ret
    exact ⟨ret_bool (by rw [HD.out]; simp; omega), by (repeat (first | (with_reducible exact Below.refl _ _) | (with_reducible assumption) | ((with_reducible refine Below.setCell ?_ ?_ _); rotate_left; focus (first | omega | (simp; done) | (simp; omega))) | ((with_reducible refine Below.alloc ?_ ?_ _); rotate_left; focus (first | omega | (simp; done) | (simp; omega))) | (with_reducible refine Below.drew ?_) | (with_reducible refine below_drewN ?_ _) | (refine Below.trans ?_ (Below.mono (by with_reducible assumption) (by (first | omega | (simp; done) | (simp; omega)))))))⟩
set_option maxHeartbeats 400000 in
theorem impl_isDisk (cs : List Value) (d : Disk) (w : World) (h : DiskR.Rd w w.heap.size cs d) (hm : DiskR.sz d ≤ 1048576) :
    Calls Try.prog 18 #[.agg cs.toArray] w fun e w' => e = .returned (.bool d.ok) ∧ Below w.heap.size w w' := by
  obtain ⟨v0, v1, rfl, q0, q1⟩ := rd_Disk h
  obtain ⟨A0, c0, rfl⟩ := q0.form
  obtain ⟨A1, c1, rfl⟩ := q1.form
  have hl := len_sz_Disk hm
  have HD : Hid (d.ok = decide (d.Safe.length + d.Loose.length ≤ 40000)) := rfl
  generalize d.Safe.length = n at *
  generalize d.Loose.length = n' at *
  go_enter Try.func18, Try.ntmps18
  go_wp2
  go_ret
  exact ⟨ret_bool (by rw [HD.out]; simp; omega), by (repeat (first | (with_reducible exact Below.refl _ _) | (with_reducible assumption) | ((with_reducible refine Below.setCell ?_ ?_ _); rotate_left; focus (first | omega | (simp; done) | (simp; omega))) | ((with_reducible refine Below.alloc ?_ ?_ _); rotate_left; focus (first | omega | (simp; done) | (simp; omega))) | (with_reducible refine Below.drew ?_) | (with_reducible refine below_drewN ?_ _) | (refine Below.trans ?_ (Below.mono (by with_reducible assumption) (by (first | omega | (simp; done) | (simp; omega)))))))⟩
end Go.Proofs.Ytgaenfkjobkmjab

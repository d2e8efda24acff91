/- whole, SyncLog, CrashLog. -/
import Derived.Test.YtgaenfkjobkmjabLog
import Derived.Lib.MinMax
set_option linter.unusedSimpArgs false
set_option linter.unusedVariables false
set_option maxRecDepth 20000
namespace Go.Proofs.Ytgaenfkjobkmjab
open Go.RowKit
def syncLog (d : Disk) : Disk := match d.ok with | true => ⟨d.Safe ++ d.Loose, []⟩ | false => d
def kept (k : Int) (n : Nat) : Nat := if k < 0 then 0 else if (n : Int) < k then n else k.toNat
theorem kept_le (k : Int) (n : Nat) : kept k n ≤ n := by unfold kept; split <;> (try split) <;> omega
def crashLog (d : Disk) (k : Int) : Disk := match d.ok with | true => ⟨d.Safe ++ d.Loose.take (kept k d.Loose.length), []⟩ | false => d
theorem syncLog_ok {d : Disk} (h : d.ok = true) : syncLog d = ⟨d.Safe ++ d.Loose, []⟩ := by unfold syncLog; rw [h]
theorem syncLog_no {d : Disk} (h : d.ok = false) : syncLog d = d := by unfold syncLog; rw [h]
theorem crashLog_ok {d : Disk} {k : Int} (h : d.ok = true) : crashLog d k = ⟨d.Safe ++ d.Loose.take (kept k d.Loose.length), []⟩ := by unfold crashLog; rw [h]
theorem crashLog_no {d : Disk} {k : Int} (h : d.ok = false) : crashLog d k = d := by unfold crashLog; rw [h]
theorem syncLog_sz (d : Disk) : DiskR.sz (syncLog d) = DiskR.sz d := by
  cases h : d.ok
  · rw [syncLog_no h]
  · rw [syncLog_ok h, sz_Disk, sz_Disk]; simp only [sz_ByteS, List.length_append, List.length_nil]; omega
theorem crashLog_sz (d : Disk) (k : Int) : DiskR.sz (crashLog d k) ≤ DiskR.sz d := by
  cases h : d.ok
  · rw [crashLog_no h]; exact Nat.le_refl _
  · have := kept_le k d.Loose.length
    rw [crashLog_ok h, sz_Disk, sz_Disk]; simp only [sz_ByteS, List.length_append, List.length_nil, List.length_take]; omega
theorem SlOwn.nilB {w : World} {c : Nat} (hc : c ≤ 9223372036854775807) : SlOwn byteR 5 w (fun _ => False) (.slice none 0 c) [] :=
  SlOwn.of_rows (f := fun x => [byteV x]) (xs := []) (Rows.nil) (Nat.zero_le _) hc (fun _ _ => trivial)
/-- A disk whose safe part alone is a row of its own. -/
theorem own_safe {w : World} {base lo hi : Nat} {A : Option Addr} {c : Nat} {xs : List UInt8} (h : w.ownsRow base 5 1 (.slice A xs.length c) xs.length (xs.map byteV)) (h1 : lo ≤ base) (h2 : w.heap.size ≤ hi) :
    DiskR.Own w (InR lo hi) [.slice A xs.length c, .slice none 0 0] ⟨xs, []⟩ :=
  of_own_Disk (x := ⟨xs, []⟩) (of_own_ByteS h) (SlOwn.nilB (by omega)) (fun g hg => by have := h.lt g hg; exact ⟨by omega, by omega⟩) (fun g hg => hg.elim) (fun g _ hg => hg)
set_option maxHeartbeats 800000 in
theorem impl_whole (cs : List Value) (d : Disk) (w : World) (h : DiskR.Rd w w.heap.size cs d) (hm : DiskR.sz d ≤ 1048576) :
    Calls Try.prog 20 #[.agg cs.toArray] w fun e w' => ∃ A c, e = .returned (.slice A (d.Safe ++ d.Loose).length c) ∧ w'.ownsRow w.heap.size 5 1 (.slice A (d.Safe ++ d.Loose).length c) (d.Safe ++ d.Loose).length ((d.Safe ++ d.Loose).map byteV) ∧ Below w.heap.size w w' := by
  obtain ⟨v0, v1, rfl, q0, q1⟩ := rd_Disk h
  obtain ⟨A0, c0, rfl⟩ := q0.form
  obtain ⟨A1, c1, rfl⟩ := q1.form
  have hl := len_sz_Disk hm
  have hp : pieces [(A0, c0, d.Safe), (A1, c1, d.Loose)] = d.Safe ++ d.Loose := by simp [pieces]
  go_enter Try.func20, Try.ntmps20
  go_wp2_with fail
  refine (slices_Concat_byte (some ⟨w.heap.size + 1, 0, none⟩) 2 [(A0, c0, d.Safe), (A1, c1, d.Loose)] _ ?_ ?_ (by simp) (by rw [hp, List.length_append]; omega)).mono ?_
  · exact (Reads.of_blk (Blk.new' (by simp))).more (by simp)
  · intro r hr
    simp only [List.mem_cons, List.not_mem_nil, or_false] at hr
    rcases hr with rfl | rfl
    · exact ((rd_ByteS q0).2.1.keep (by (repeat (first | (with_reducible exact Below.refl _ _) | (with_reducible assumption) | ((with_reducible refine Below.setCell ?_ ?_ _); rotate_left; focus (first | omega | (simp; done) | (simp; omega))) | ((with_reducible refine Below.alloc ?_ ?_ _); rotate_left; focus (first | omega | (simp; done) | (simp; omega))) | (with_reducible refine Below.drew ?_) | (with_reducible refine below_drewN ?_ _) | (refine Below.trans ?_ (Below.mono (by with_reducible assumption) (by (first | omega | (simp; done) | (simp; omega)))))))) (by simp; try omega))
    · exact ((rd_ByteS q1).2.1.keep (by (repeat (first | (with_reducible exact Below.refl _ _) | (with_reducible assumption) | ((with_reducible refine Below.setCell ?_ ?_ _); rotate_left; focus (first | omega | (simp; done) | (simp; omega))) | ((with_reducible refine Below.alloc ?_ ?_ _); rotate_left; focus (first | omega | (simp; done) | (simp; omega))) | (with_reducible refine Below.drew ?_) | (with_reducible refine below_drewN ?_ _) | (refine Below.trans ?_ (Below.mono (by with_reducible assumption) (by (first | omega | (simp; done) | (simp; omega)))))))) (by simp; try omega))
  · rintro e w1 ⟨A, c, rfl, ho, hb⟩
    rw [hp] at ho ⊢
    go_wp2
    go_ret
    exact ⟨A, c, by rw [List.length_append]; rfl, own_base ho (by simp; try omega), by (repeat (first | (with_reducible exact Below.refl _ _) | (with_reducible assumption) | ((with_reducible refine Below.setCell ?_ ?_ _); rotate_left; focus (first | omega | (simp; done) | (simp; omega))) | ((with_reducible refine Below.alloc ?_ ?_ _); rotate_left; focus (first | omega | (simp; done) | (simp; omega))) | (with_reducible refine Below.drew ?_) | (with_reducible refine below_drewN ?_ _) | (refine Below.trans ?_ (Below.mono (by with_reducible assumption) (by (first | omega | (simp; done) | (simp; omega)))))))⟩
end Go.Proofs.Ytgaenfkjobkmjab

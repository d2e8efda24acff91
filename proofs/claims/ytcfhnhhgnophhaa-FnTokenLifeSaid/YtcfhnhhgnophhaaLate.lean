/- Whether a token is over, is late: isOver, isLate of the program, l08Over of the reference. -/
import Derived.Test.YtcfhnhhgnophhaaTokRd
set_option linter.unusedSimpArgs false
set_option linter.unusedVariables false
set_option maxRecDepth 20000
namespace Go.Proofs.Ytcfhnhhgnophhaa
open Go.RowKit
def overB (e now : Int) : Bool := e != 0 && decide (e ≤ now)
def lateB (t : Token) (now : Int) : Bool := overB t.Ends now || decide (now < t.Made)
theorem impl_isOver (e now : Int) (w : World) : Calls Try.prog 35 #[.int .i64 e, .int .i64 now] w fun r w' => r = .returned (.bool (overB e now)) ∧ w = w' := by
  cases he : e != 0
  all_goals
    have HR : Hid (overB e now = _) := Lib.hid (by unfold overB; rw [he])
    go_enter Try.func35, Try.ntmps35
    go_wp2
    go_ret
    exact ⟨ret_bool (by rw [HR.out]; first | rfl | simp), rfl⟩
theorem impl_isOver_b {e now : Int} {b : Bool} (h : overB e now = b) (w : World) : Calls Try.prog 35 #[.int .i64 e, .int .i64 now] w fun r w' => r = .returned (.bool b) ∧ w = w' := by rw [← h]; exact impl_isOver e now w
set_option maxHeartbeats 800000 in
theorem impl_isLate (t : Token) (A : Option Addr) (c : Nat) (now : Int) (w : World) : Calls Try.prog 72 #[.agg #[.int .i64 t.Id, .int .i64 t.Parent, .slice A t.Names.length c, .int .i64 t.Made, .int .i64 t.Ends, .int .i64 t.Limit, .int .i64 t.Uses], .int .i64 now] w fun e w' => e = .returned (.bool (lateB t now)) ∧ Below w.heap.size w w' := by
  cases ho : overB t.Ends now
  all_goals
    have HR : Hid (lateB t now = _) := Lib.hid (by unfold lateB; rw [ho])
    have HO := Lib.hid ho
    clear ho
    go_enter Try.func72, Try.ntmps72
    go_wp2_with (go_at_call 35; refine (impl_isOver_b HO.out _).mono ?_; rintro e w' ⟨rfl, rfl⟩)
    go_ret
    exact ⟨ret_bool (by rw [HR.out]; first | rfl | simp), by (repeat (first | (with_reducible exact Below.refl _ _) | (with_reducible assumption) | ((with_reducible refine Below.setCell ?_ ?_ _); rotate_left; focus (first | omega | (simp; done) | (simp; omega))) | ((with_reducible refine Below.alloc ?_ ?_ _); rotate_left; focus (first | omega | (simp; done) | (simp; omega))) | (with_reducible refine Below.drew ?_) | (with_reducible refine below_drewN ?_ _) | (refine Below.trans ?_ (Below.mono (by with_reducible assumption) (by (first | omega | (simp; done) | (simp; omega)))))))⟩
theorem impl_isLate_b {t : Token} {now : Int} {b : Bool} (h : lateB t now = b) (A : Option Addr) (c : Nat) (w : World) : Calls Try.prog 72 #[.agg #[.int .i64 t.Id, .int .i64 t.Parent, .slice A t.Names.length c, .int .i64 t.Made, .int .i64 t.Ends, .int .i64 t.Limit, .int .i64 t.Uses], .int .i64 now] w fun e w' => e = .returned (.bool b) ∧ Below w.heap.size w w' := by rw [← h]; exact impl_isLate t A c now w
set_option maxHeartbeats 800000 in
theorem spec_l08Over (t : Token) (A : Option Addr) (c : Nat) (now : Int) (w : World) : Calls Try.prog 47 #[.agg #[.int .i64 t.Id, .int .i64 t.Parent, .slice A t.Names.length c, .int .i64 t.Made, .int .i64 t.Ends, .int .i64 t.Limit, .int .i64 t.Uses], .int .i64 now] w fun e w' => e = .returned (.bool (overB t.Ends now)) ∧ Below w.heap.size w w' := by
  cases he : t.Ends != 0
  all_goals
    have HR : Hid (overB t.Ends now = _) := Lib.hid (by unfold overB; rw [he])
    go_enter Try.func47, Try.ntmps47
    go_wp2
    go_ret
    exact ⟨ret_bool (by rw [HR.out]; first | rfl | simp), by (repeat (first | (with_reducible exact Below.refl _ _) | (with_reducible assumption) | ((with_reducible refine Below.setCell ?_ ?_ _); rotate_left; focus (first | omega | (simp; done) | (simp; omega))) | ((with_reducible refine Below.alloc ?_ ?_ _); rotate_left; focus (first | omega | (simp; done) | (simp; omega))) | (with_reducible refine Below.drew ?_) | (with_reducible refine below_drewN ?_ _) | (refine Below.trans ?_ (Below.mono (by with_reducible assumption) (by (first | omega | (simp; done) | (simp; omega)))))))⟩
theorem spec_l08Over_b {t : Token} {now : Int} {b : Bool} (h : overB t.Ends now = b) (A : Option Addr) (c : Nat) (w : World) : Calls Try.prog 47 #[.agg #[.int .i64 t.Id, .int .i64 t.Parent, .slice A t.Names.length c, .int .i64 t.Made, .int .i64 t.Ends, .int .i64 t.Limit, .int .i64 t.Uses], .int .i64 now] w fun e w' => e = .returned (.bool b) ∧ Below w.heap.size w w' := by rw [← h]; exact spec_l08Over t A c now w
end Go.Proofs.Ytcfhnhhgnophhaa

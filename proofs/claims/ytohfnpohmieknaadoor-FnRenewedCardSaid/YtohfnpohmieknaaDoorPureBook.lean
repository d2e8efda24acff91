/- Books of leases, as plain data. -/
import Derived.Test.YtohfnpohmieknaaDoorSpecPath
import Derived.Test.YtohfnpohmieknaaDoorBook2
set_option linter.unusedSimpArgs false
set_option linter.unusedVariables false
set_option maxRecDepth 20000
namespace Go.Proofs.YtohfnpohmieknaaDoor
open Go.RowKit
def leaseOk (l : Lease) : Bool := withinB l.Id 1 1000000000 && (withinB l.Token 0 1000000000 && (pathOk l.Path && (withinB l.Made 0 1000000000 && (withinB l.Limit (l.Made + 1) 1000000000 && withinB l.Ends (l.Made + 1) l.Limit))))
def leaseLt (x y : Lease) : Bool := decide (x.Id < y.Id)
def bookOk (ls : List Lease) : Bool := decide (ls.length ≤ 150) && okAll leaseOk leaseLt ls ls.length
theorem bookOk_bad {ls : List Lease} {k : Nat} (hk : k < ls.length) (h : okAt leaseOk leaseLt ls k = false) : bookOk ls = false := by unfold bookOk; rw [okAll_false hk h, Bool.and_false]
theorem bookOk_done {ls : List Lease} (h : okAll leaseOk leaseLt ls ls.length = true) : bookOk ls = decide (ls.length ≤ 150) := by unfold bookOk; rw [h, Bool.and_true]
theorem bookOk_long {ls : List Lease} (h : ¬ ls.length ≤ 150) : bookOk ls = false := by unfold bookOk; rw [decide_eq_false h, Bool.false_and]
theorem lease_elem {w : World} {B n c k : Nat} {A : Option Addr} {ls : List Lease} {l : Lease} (h : SlRd LeaseR w B (.slice A n c) ls) (hl : ls[k]? = some l) :
    ∃ b off, A = some ⟨b, off, none⟩ ∧ b < B ∧ l.Path.size ≤ 9223372036854775807 ∧ w.cell? ⟨b, off + k * 6, none⟩ = some (.int .i64 l.Id) ∧ w.cell? ⟨b, off + k * 6 + 1, none⟩ = some (.int .i64 l.Token) ∧
      w.cell? ⟨b, off + k * 6 + 2, none⟩ = some (.string l.Path) ∧ w.cell? ⟨b, off + k * 6 + 3, none⟩ = some (.int .i64 l.Made) ∧ w.cell? ⟨b, off + k * 6 + 4, none⟩ = some (.int .i64 l.Ends) ∧
      w.cell? ⟨b, off + k * 6 + 5, none⟩ = some (.int .i64 l.Limit) := by
  obtain ⟨b, off, cs, rfl, hab, hrd, hcell⟩ := h.elem hl
  obtain ⟨rfl, hp⟩ := rd_Lease hrd
  exact ⟨b, off, rfl, hab, hp, hcell 0 _ rfl, hcell 1 _ rfl, hcell 2 _ rfl, hcell 3 _ rfl, hcell 4 _ rfl, hcell 5 _ rfl⟩
theorem lease_id {w : World} {B n c k b off : Nat} {ls : List Lease} {l : Lease} (h : SlRd LeaseR w B (.slice (some ⟨b, off, none⟩) n c) ls) (hl : ls[k]? = some l) : w.cell? ⟨b, off + k * 6, none⟩ = some (.int .i64 l.Id) := by
  obtain ⟨b', off', e, _, _, h0, _⟩ := lease_elem h hl
  simp only [Option.some.injEq, Addr.mk.injEq, and_true] at e
  obtain ⟨rfl, rfl⟩ := e
  exact h0
def mkLease (l : Lease) : Array Value := #[.int .i64 l.Id, .int .i64 l.Token, .string l.Path, .int .i64 l.Made, .int .i64 l.Ends, .int .i64 l.Limit]
theorem made_of {l : Lease} (h : withinB l.Made 0 1000000000 = true) : 0 ≤ l.Made ∧ l.Made ≤ 1000000000 := by
  unfold withinB at h
  simpa using h
set_option maxHeartbeats 3200000 in
theorem impl_isLease (x : Lease) (w : World) (hs : x.Path.size ≤ 9223372036854775807) (hml : MaxLenInt w) :
    Calls Tryd.prog 24 #[.agg #[.int .i64 x.Id, .int .i64 x.Token, .string x.Path, .int .i64 x.Made, .int .i64 x.Ends, .int .i64 x.Limit]] w fun e w' => e = .returned (.bool (leaseOk x)) ∧ Below w.heap.size w w' := by
  have HP := Lib.hid (fun w' (h : MaxLenInt w') => impl_isPath x.Path w' hs h)
  have HM := Lib.hid (fun (w' : World) (hb : Below w.heap.size w w') => hml.keep hb)
  have HD : Hid (leaseOk x = (withinB x.Id 1 1000000000 && (withinB x.Token 0 1000000000 && (pathOk x.Path && (withinB x.Made 0 1000000000 && (withinB x.Limit (x.Made + 1) 1000000000 && withinB x.Ends (x.Made + 1) x.Limit)))))) := Lib.hid rfl
  generalize leaseOk x = lo at *
  generalize pathOk x.Path = po at *
  cases hM : withinB x.Made 0 1000000000
  rotate_left
  · have hm1 := (made_of hM).1
    have hm2 := (made_of hM).2
    have hw := IntWalk.i64_in (x.Made + 1) (by omega)
    go_enter Tryd.func24, Tryd.ntmps24
    go_wp2_with (first | (go_at_call 27; refine (impl_within _ _ _ _).mono ?_; rintro e w' ⟨rfl, rfl⟩) | (go_at_call 31; refine (HP.out _ (HM.out _ (by (repeat (first | (with_reducible exact Below.refl _ _) | (with_reducible assumption) | ((with_reducible refine Below.setCell ?_ ?_ _); rotate_left; focus (first | omega | (simp; done) | (simp; omega))) | ((with_reducible refine Below.alloc ?_ ?_ _); rotate_left; focus (first | omega | (simp; done) | (simp; omega))) | (with_reducible refine Below.drew ?_) | (with_reducible refine below_drewN ?_ _) | (refine Below.trans ?_ (Below.mono (by with_reducible assumption) (by (first | omega | (simp; done) | (simp; omega)))))))))).mono ?_; rintro e w1 ⟨rfl, hb1⟩; have hz1 := hb1.size; have BX : Blk w1 w.heap.size 32 #[.int .i64 x.Id, .int .i64 x.Token, .string x.Path, .int .i64 x.Made, .int .i64 x.Ends, .int .i64 x.Limit] := (by (repeat (first | (with_reducible assumption) | ((with_reducible refine Blk.new' ?_); focus (simp; done)) | (with_reducible refine Blk.alloc ?_ _) | (with_reducible refine Blk.drew ?_) | (with_reducible refine Blk.drewN ?_ _) | ((with_reducible refine Blk.far ?_ ?_ _); rotate_left; focus (first | omega | (simp; done) | (simp; omega))) | (refine Blk.keep ?_ (by with_reducible assumption)) | (refine Blk.below ?_ (by with_reducible assumption) (by (first | omega | (simp; done) | (simp; omega))))))); have hcX := BX.cell; have hfX := BX.frozen))
    all_goals
      go_ret
      exact ⟨ret_bool (by rw [HD.out]; simp [*]), by (repeat (first | (with_reducible exact Below.refl _ _) | (with_reducible assumption) | ((with_reducible refine Below.setCell ?_ ?_ _); rotate_left; focus (first | omega | (simp; done) | (simp; omega))) | ((with_reducible refine Below.alloc ?_ ?_ _); rotate_left; focus (first | omega | (simp; done) | (simp; omega))) | (with_reducible refine Below.drew ?_) | (with_reducible refine below_drewN ?_ _) | (refine Below.trans ?_ (Below.mono (by with_reducible assumption) (by (first | omega | (simp; done) | (simp; omega)))))))⟩
  · go_enter Tryd.func24, Tryd.ntmps24
    go_wp2_with (first | (go_at_call 27; refine (impl_within _ _ _ _).mono ?_; rintro e w' ⟨rfl, rfl⟩) | (go_at_call 31; refine (HP.out _ (HM.out _ (by (repeat (first | (with_reducible exact Below.refl _ _) | (with_reducible assumption) | ((with_reducible refine Below.setCell ?_ ?_ _); rotate_left; focus (first | omega | (simp; done) | (simp; omega))) | ((with_reducible refine Below.alloc ?_ ?_ _); rotate_left; focus (first | omega | (simp; done) | (simp; omega))) | (with_reducible refine Below.drew ?_) | (with_reducible refine below_drewN ?_ _) | (refine Below.trans ?_ (Below.mono (by with_reducible assumption) (by (first | omega | (simp; done) | (simp; omega)))))))))).mono ?_; rintro e w1 ⟨rfl, hb1⟩; have hz1 := hb1.size; have BX : Blk w1 w.heap.size 32 #[.int .i64 x.Id, .int .i64 x.Token, .string x.Path, .int .i64 x.Made, .int .i64 x.Ends, .int .i64 x.Limit] := (by (repeat (first | (with_reducible assumption) | ((with_reducible refine Blk.new' ?_); focus (simp; done)) | (with_reducible refine Blk.alloc ?_ _) | (with_reducible refine Blk.drew ?_) | (with_reducible refine Blk.drewN ?_ _) | ((with_reducible refine Blk.far ?_ ?_ _); rotate_left; focus (first | omega | (simp; done) | (simp; omega))) | (refine Blk.keep ?_ (by with_reducible assumption)) | (refine Blk.below ?_ (by with_reducible assumption) (by (first | omega | (simp; done) | (simp; omega))))))); have hcX := BX.cell; have hfX := BX.frozen))
    all_goals
      go_ret
      exact ⟨ret_bool (by rw [HD.out]; simp [*]), by (repeat (first | (with_reducible exact Below.refl _ _) | (with_reducible assumption) | ((with_reducible refine Below.setCell ?_ ?_ _); rotate_left; focus (first | omega | (simp; done) | (simp; omega))) | ((with_reducible refine Below.alloc ?_ ?_ _); rotate_left; focus (first | omega | (simp; done) | (simp; omega))) | (with_reducible refine Below.drew ?_) | (with_reducible refine below_drewN ?_ _) | (refine Below.trans ?_ (Below.mono (by with_reducible assumption) (by (first | omega | (simp; done) | (simp; omega)))))))⟩
set_option maxHeartbeats 3200000 in
theorem spec_l09Lease (x : Lease) (w : World) (hs : x.Path.size ≤ 9223372036854775807) :
    Calls Tryd.prog 30 #[.agg #[.int .i64 x.Id, .int .i64 x.Token, .string x.Path, .int .i64 x.Made, .int .i64 x.Ends, .int .i64 x.Limit]] w fun e w' => e = .returned (.bool (leaseOk x)) ∧ Below w.heap.size w w' := by
  have HP := Lib.hid (fun w' => spec_PathOk x.Path w' hs)
  have HD : Hid (leaseOk x = (withinB x.Id 1 1000000000 && (withinB x.Token 0 1000000000 && (pathOk x.Path && (withinB x.Made 0 1000000000 && (withinB x.Limit (x.Made + 1) 1000000000 && withinB x.Ends (x.Made + 1) x.Limit)))))) := Lib.hid rfl
  generalize leaseOk x = lo at *
  generalize pathOk x.Path = po at *
  cases hM : withinB x.Made 0 1000000000
  rotate_left
  · have hm1 := (made_of hM).1
    have hm2 := (made_of hM).2
    have hw := IntWalk.i64_in (x.Made + 1) (by omega)
    go_enter Tryd.func30, Tryd.ntmps30
    go_wp2_with (first | (go_at_call 13; refine (spec_l01In _ _ _ _).mono ?_; rintro e w' ⟨rfl, rfl⟩) | (go_at_call 36; refine (HP.out _).mono ?_; rintro e w1 ⟨rfl, hb1⟩; have hz1 := hb1.size; have BX : Blk w1 w.heap.size 32 #[.int .i64 x.Id, .int .i64 x.Token, .string x.Path, .int .i64 x.Made, .int .i64 x.Ends, .int .i64 x.Limit] := (by (repeat (first | (with_reducible assumption) | ((with_reducible refine Blk.new' ?_); focus (simp; done)) | (with_reducible refine Blk.alloc ?_ _) | (with_reducible refine Blk.drew ?_) | (with_reducible refine Blk.drewN ?_ _) | ((with_reducible refine Blk.far ?_ ?_ _); rotate_left; focus (first | omega | (simp; done) | (simp; omega))) | (refine Blk.keep ?_ (by with_reducible assumption)) | (refine Blk.below ?_ (by with_reducible assumption) (by (first | omega | (simp; done) | (simp; omega))))))); have hcX := BX.cell; have hfX := BX.frozen))
    all_goals
      go_ret
      exact ⟨ret_bool (by rw [HD.out]; simp [*]), by (repeat (first | (with_reducible exact Below.refl _ _) | (with_reducible assumption) | ((with_reducible refine Below.setCell ?_ ?_ _); rotate_left; focus (first | omega | (simp; done) | (simp; omega))) | ((with_reducible refine Below.alloc ?_ ?_ _); rotate_left; focus (first | omega | (simp; done) | (simp; omega))) | (with_reducible refine Below.drew ?_) | (with_reducible refine below_drewN ?_ _) | (refine Below.trans ?_ (Below.mono (by with_reducible assumption) (by (first | omega | (simp; done) | (simp; omega)))))))⟩
  · go_enter Tryd.func30, Tryd.ntmps30
    go_wp2_with (first | (go_at_call 13; refine (spec_l01In _ _ _ _).mono ?_; rintro e w' ⟨rfl, rfl⟩) | (go_at_call 36; refine (HP.out _).mono ?_; rintro e w1 ⟨rfl, hb1⟩; have hz1 := hb1.size; have BX : Blk w1 w.heap.size 32 #[.int .i64 x.Id, .int .i64 x.Token, .string x.Path, .int .i64 x.Made, .int .i64 x.Ends, .int .i64 x.Limit] := (by (repeat (first | (with_reducible assumption) | ((with_reducible refine Blk.new' ?_); focus (simp; done)) | (with_reducible refine Blk.alloc ?_ _) | (with_reducible refine Blk.drew ?_) | (with_reducible refine Blk.drewN ?_ _) | ((with_reducible refine Blk.far ?_ ?_ _); rotate_left; focus (first | omega | (simp; done) | (simp; omega))) | (refine Blk.keep ?_ (by with_reducible assumption)) | (refine Blk.below ?_ (by with_reducible assumption) (by (first | omega | (simp; done) | (simp; omega))))))); have hcX := BX.cell; have hfX := BX.frozen))
    all_goals
      go_ret
      exact ⟨ret_bool (by rw [HD.out]; simp [*]), by (repeat (first | (with_reducible exact Below.refl _ _) | (with_reducible assumption) | ((with_reducible refine Below.setCell ?_ ?_ _); rotate_left; focus (first | omega | (simp; done) | (simp; omega))) | ((with_reducible refine Below.alloc ?_ ?_ _); rotate_left; focus (first | omega | (simp; done) | (simp; omega))) | (with_reducible refine Below.drew ?_) | (with_reducible refine below_drewN ?_ _) | (refine Below.trans ?_ (Below.mono (by with_reducible assumption) (by (first | omega | (simp; done) | (simp; omega)))))))⟩
end Go.Proofs.YtohfnpohmieknaaDoor

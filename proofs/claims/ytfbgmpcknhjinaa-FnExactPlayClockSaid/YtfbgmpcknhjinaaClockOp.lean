/- Contracts of the helpers on ClockOp, []ClockOp (printed by wip/gen/gen.py). -/
import Derived.Test.YtfbgmpcknhjinaaRows
import Derived.Test.YtfbgmpcknhjinaaLib
set_option linter.unusedSimpArgs false
set_option linter.unusedVariables false
set_option maxRecDepth 20000
namespace Go.Proofs.Ytfbgmpcknhjinaa
open Go.RowKit
structure ClockOp where
  Kind : Int
  Id : Int
  At : Int
  deriving DecidableEq
def ClockOp.cells (t : ClockOp) : List Value := [.int .i64 t.Kind, .int .i64 t.Id, .int .i64 t.At]
theorem ClockOp.len (t : ClockOp) : t.cells.length = 3 := rfl
theorem ClockOp.one (t : ClockOp) : ∀ u ∈ t.cells, u.oneCell' = true := by simp [ClockOp.cells, Value.oneCell']
theorem info_ClockOp : (Try.prog.info? 54).map (fun i => (i.zero, i.size, i.bytes)) = some (some (.agg #[.int .i64 0, .int .i64 0, .int .i64 0]), 3, 24) := by kernel_rfl
set_option maxHeartbeats 400000 in
theorem laws_toClockOp (t : ClockOp) (w : World) :
    Calls Try.prog 47 #[.agg #[.int .i64 t.Kind, .int .i64 t.Id, .int .i64 t.At]] w fun e w' => e = .returned (.agg #[.int .i64 t.Kind, .int .i64 t.Id, .int .i64 t.At]) ∧ Below w.heap.size w w' := by
  go_enter Try.func47, Try.ntmps47
  go_wp2
  refine bodyPost_ret (v := .agg #[.int .i64 t.Kind, .int .i64 t.Id, .int .i64 t.At]) (by simp [results, Try.results47, go_sem]) rfl ⟨rfl, by (repeat (first | (with_reducible exact Below.refl _ _) | (with_reducible assumption) | ((with_reducible refine Below.setCell ?_ ?_ _); rotate_left; focus (first | omega | (simp; done) | (simp; omega))) | ((with_reducible refine Below.alloc ?_ ?_ _); rotate_left; focus (first | omega | (simp; done) | (simp; omega))) | (with_reducible refine Below.drew ?_) | (with_reducible refine below_drewN ?_ _) | (refine Below.trans ?_ (Below.mono (by with_reducible assumption) (by (first | omega | (simp; done) | (simp; omega)))))))⟩
set_option maxHeartbeats 400000 in
theorem laws_eqClockOp (s t : ClockOp) (w : World) :
    Calls Try.prog 49 #[.agg #[.int .i64 s.Kind, .int .i64 s.Id, .int .i64 s.At], .agg #[.int .i64 t.Kind, .int .i64 t.Id, .int .i64 t.At]] w fun e w' => e = .returned (.bool (decide (s = t))) ∧ Below w.heap.size w w' := by
  go_enter Try.func49, Try.ntmps49
  go_wp2
  all_goals (go_ret; exact ⟨ret_bool (by cases s; cases t; simp_all), by (repeat (first | (with_reducible exact Below.refl _ _) | (with_reducible assumption) | ((with_reducible refine Below.setCell ?_ ?_ _); rotate_left; focus (first | omega | (simp; done) | (simp; omega))) | ((with_reducible refine Below.alloc ?_ ?_ _); rotate_left; focus (first | omega | (simp; done) | (simp; omega))) | (with_reducible refine Below.drew ?_) | (with_reducible refine below_drewN ?_ _) | (refine Below.trans ?_ (Below.mono (by with_reducible assumption) (by (first | omega | (simp; done) | (simp; omega)))))))⟩)
theorem laws_szClockOpS (A : Option Addr) (n c : Nat) (left : Int) (w : World) (hn : n ≤ 9223372036854775807) (h1 : -1 ≤ left) (h2 : left ≤ 1048576) :
    Calls Try.prog 19 #[.slice A n c, .int .i64 left] w fun e w' => e = .returned (.int .i64 (leftOf left n)) ∧ w = w' := by
  go_enter Try.func19, Try.ntmps19
  go_wp2
  all_goals (go_ret; exact ⟨ret_int (by unfold leftOf; split <;> omega), rfl⟩)
set_option maxHeartbeats 800000 in
theorem laws_toClockOpS (A : Option Addr) (c : Nat) (ts : List ClockOp) (w : World) (hr : Reads w w.heap.size A (ts.flatMap ClockOp.cells)) (hm : ts.length ≤ 1048576) :
    Calls Try.prog 21 #[.slice A ts.length c] w fun e w' => ∃ A1 c1, e = .returned (.slice A1 ts.length c1) ∧ w'.ownsRow w.heap.size 54 3 (.slice A1 ts.length c1) ts.length (ts.flatMap ClockOp.cells) ∧ Below w.heap.size w w' := by
  obtain ⟨i0, hi, hz0, hz1, hz2⟩ := info_parts info_ClockOp
  generalize hn : ts.length = n at hm
  have Hn := Lib.hid hn
  clear hn
  go_enter Try.func21, Try.ntmps21
  go_wp2_with (first | (at_make; refine wpList_make_full _ rfl _ _ 44 rfl w.heap.size 54 i0 _ 3 Try.underlying44 hi hz0 hz1 .i64 .i64 _ _ n rfl rfl (by omega) (by omega) (by rw [hz2]; omega) (by unfold maxLen; omega) (Nat.le_refl _) ?_; intro w1 hown hg))
  have hb0 : Below w.heap.size w w1 := (Below.refl _ _).grown hg (Nat.le_refl _) (by simp)
  go_loopw [4] (fun i wr => ∃ k : Nat, k ≤ n ∧ i = .int .i64 k ∧ Filled wr w.heap.size w.heap.size 54 3 n (ts.flatMap ClockOp.cells) (k * 3) ∧ Below w.heap.size w wr ∧ w.heap.size < wr.heap.size) (fun i _ => n - (intOf i).toNat)
  case atStart => exact ⟨0, Nat.zero_le _, rfl, Filled.start hown (by rw [flat_length _ _ ClockOp.len, Hn.out]), hb0, own_lt hown _ rfl⟩
  case round =>
    obtain ⟨k, hk, rfl, hf, hb, hzr⟩ := hrel
    clear hown hg hb0
    by_cases hlt : k < n
    · obtain ⟨b, off, rfl, hab, hc1⟩ := hr.elem ClockOp.len (by omega) (k := k) (by rw [Hn.out]; exact hlt) hb (Nat.le_refl _)
      have HU := fun j (hj : j < 3) => flat_at ClockOp.cells 3 ClockOp.len ts k j (by rw [Hn.out]; exact hlt) hj
      generalize ts[k]'(by rw [Hn.out]; exact hlt) = t at hc1 HU
      have hc10 := hc1 0 (by omega)
      have hc11 := hc1 1 (by omega)
      have hc12 := hc1 2 (by omega)
      have HU0 := Lib.hid (HU 0 (by omega))
      have HU1 := Lib.hid (HU 1 (by omega))
      have HU2 := Lib.hid (HU 2 (by omega))
      simp only [ClockOp.cells, List.getElem?_cons_zero, List.getElem?_cons_succ, Nat.add_zero] at hc10 hc11 hc12
      clear hc1 HU
      go_wp2_with fail
      refine (laws_toClockOp t _).mono ?_
      rintro e w2 ⟨rfl, hb2⟩
      have hf2 := hf.below hb2
      obtain ⟨⟨u0, hd0⟩, he0⟩ := hf2.cell (k * 3) (by omega)
      obtain ⟨⟨u1, hd1⟩, he1⟩ := hf2.cell (k * 3 + 1) (by omega)
      obtain ⟨⟨u2, hd2⟩, he2⟩ := hf2.cell (k * 3 + 2) (by omega)
      have hz2 := hb2.size
      go_wp2
      have R := (((hf2.step HU0.out).step HU1.out).step HU2.out)
      go_roundw
      case rel => exact ⟨k + 1, by omega, by go_num, by rw [Nat.add_mul]; exact R, by (repeat (first | (with_reducible exact Below.refl _ _) | (with_reducible assumption) | ((with_reducible refine Below.setCell ?_ ?_ _); rotate_left; focus (first | omega | (simp; done) | (simp; omega))) | ((with_reducible refine Below.alloc ?_ ?_ _); rotate_left; focus (first | omega | (simp; done) | (simp; omega))) | (with_reducible refine Below.drew ?_) | (with_reducible refine below_drewN ?_ _) | (refine Below.trans ?_ (Below.mono (by with_reducible assumption) (by (first | omega | (simp; done) | (simp; omega))))))), by simp; omega⟩
      case measure => simp [intOf]; omega
    · obtain rfl : k = n := by omega
      go_wp2
      go_ret
      exact ⟨_, _, rfl, hf.done, hb⟩
set_option maxHeartbeats 800000 in
theorem laws_eqClockOpS (A A' : Option Addr) (c c' : Nat) (xs ys : List ClockOp) (w : World) (hr : Reads w w.heap.size A (xs.flatMap ClockOp.cells)) (hr' : Reads w w.heap.size A' (ys.flatMap ClockOp.cells)) (hm : xs.length ≤ 140737488351232) (hm' : ys.length ≤ 140737488351232) :
    Calls Try.prog 23 #[.slice A xs.length c, .slice A' ys.length c'] w fun e w' => e = .returned (.bool (decide (xs = ys))) ∧ Below w.heap.size w w' := by
  generalize hn : xs.length = n at hm
  have Hn := Lib.hid hn
  clear hn
  generalize hn' : ys.length = n' at hm'
  have Hn' := Lib.hid hn'
  clear hn'
  by_cases hl : n = n'
  · subst hl
    go_enter Try.func23, Try.ntmps23
    go_wp2
    go_loopw [5] (fun i wr => ∃ k : Nat, k ≤ n ∧ i = .int .i64 k ∧ Below w.heap.size w wr ∧ Hid (xs.take k = ys.take k)) (fun i _ => n - (intOf i).toNat)
    case atStart => exact ⟨0, Nat.zero_le _, rfl, Below.refl _ _, rfl⟩
    case round =>
      obtain ⟨k, hk, rfl, hb, he⟩ := hrel
      by_cases hlt : k < n
      · have hlx : k < xs.length := by rw [Hn.out]; exact hlt
        have hly : k < ys.length := by rw [Hn'.out]; exact hlt
        obtain ⟨b, off, rfl, -, -⟩ := hr.elem ClockOp.len (by omega) hlx hb (Nat.le_refl _)
        obtain ⟨b', off', rfl, -, -⟩ := hr'.elem ClockOp.len (by omega) hly hb (Nat.le_refl _)
        have HU := Lib.hid (List.getElem?_eq_getElem hlx)
        have HV := Lib.hid (List.getElem?_eq_getElem hly)
        have C := Lib.hid (fun (w' : World) (h : Below w.heap.size w w') => hr.elem_at ClockOp.len (by omega) hlx h)
        have C' := Lib.hid (fun (w' : World) (h : Below w.heap.size w w') => hr'.elem_at ClockOp.len (by omega) hly h)
        generalize xs[k]'hlx = s at HU C
        generalize ys[k]'hly = t at HV C'
        have hzr := hb.size
        go_wp2
        go_region_held3 (fun w' => w'.cell? ⟨b, off + k * 3, none⟩ = some (.int .i64 s.Kind) ∧ w'.cell? ⟨b, off + k * 3 + 1, none⟩ = some (.int .i64 s.Id) ∧ w'.cell? ⟨b, off + k * 3 + 2, none⟩ = some (.int .i64 s.At) ∧ w'.cell? ⟨b', off' + k * 3, none⟩ = some (.int .i64 t.Kind) ∧ w'.cell? ⟨b', off' + k * 3 + 1, none⟩ = some (.int .i64 t.Id) ∧ w'.cell? ⟨b', off' + k * 3 + 2, none⟩ = some (.int .i64 t.At))
          (first | exact ⟨C.out _ (by (repeat (first | (with_reducible exact Below.refl _ _) | (with_reducible assumption) | ((with_reducible refine Below.setCell ?_ ?_ _); rotate_left; focus (first | omega | (simp; done) | (simp; omega))) | ((with_reducible refine Below.alloc ?_ ?_ _); rotate_left; focus (first | omega | (simp; done) | (simp; omega))) | (with_reducible refine Below.drew ?_) | (with_reducible refine below_drewN ?_ _) | (refine Below.trans ?_ (Below.mono (by with_reducible assumption) (by (first | omega | (simp; done) | (simp; omega)))))))) 0 (by omega), C.out _ (by (repeat (first | (with_reducible exact Below.refl _ _) | (with_reducible assumption) | ((with_reducible refine Below.setCell ?_ ?_ _); rotate_left; focus (first | omega | (simp; done) | (simp; omega))) | ((with_reducible refine Below.alloc ?_ ?_ _); rotate_left; focus (first | omega | (simp; done) | (simp; omega))) | (with_reducible refine Below.drew ?_) | (with_reducible refine below_drewN ?_ _) | (refine Below.trans ?_ (Below.mono (by with_reducible assumption) (by (first | omega | (simp; done) | (simp; omega)))))))) 1 (by omega), C.out _ (by (repeat (first | (with_reducible exact Below.refl _ _) | (with_reducible assumption) | ((with_reducible refine Below.setCell ?_ ?_ _); rotate_left; focus (first | omega | (simp; done) | (simp; omega))) | ((with_reducible refine Below.alloc ?_ ?_ _); rotate_left; focus (first | omega | (simp; done) | (simp; omega))) | (with_reducible refine Below.drew ?_) | (with_reducible refine below_drewN ?_ _) | (refine Below.trans ?_ (Below.mono (by with_reducible assumption) (by (first | omega | (simp; done) | (simp; omega)))))))) 2 (by omega), C'.out _ (by (repeat (first | (with_reducible exact Below.refl _ _) | (with_reducible assumption) | ((with_reducible refine Below.setCell ?_ ?_ _); rotate_left; focus (first | omega | (simp; done) | (simp; omega))) | ((with_reducible refine Below.alloc ?_ ?_ _); rotate_left; focus (first | omega | (simp; done) | (simp; omega))) | (with_reducible refine Below.drew ?_) | (with_reducible refine below_drewN ?_ _) | (refine Below.trans ?_ (Below.mono (by with_reducible assumption) (by (first | omega | (simp; done) | (simp; omega)))))))) 0 (by omega), C'.out _ (by (repeat (first | (with_reducible exact Below.refl _ _) | (with_reducible assumption) | ((with_reducible refine Below.setCell ?_ ?_ _); rotate_left; focus (first | omega | (simp; done) | (simp; omega))) | ((with_reducible refine Below.alloc ?_ ?_ _); rotate_left; focus (first | omega | (simp; done) | (simp; omega))) | (with_reducible refine Below.drew ?_) | (with_reducible refine below_drewN ?_ _) | (refine Below.trans ?_ (Below.mono (by with_reducible assumption) (by (first | omega | (simp; done) | (simp; omega)))))))) 1 (by omega), C'.out _ (by (repeat (first | (with_reducible exact Below.refl _ _) | (with_reducible assumption) | ((with_reducible refine Below.setCell ?_ ?_ _); rotate_left; focus (first | omega | (simp; done) | (simp; omega))) | ((with_reducible refine Below.alloc ?_ ?_ _); rotate_left; focus (first | omega | (simp; done) | (simp; omega))) | (with_reducible refine Below.drew ?_) | (with_reducible refine below_drewN ?_ _) | (refine Below.trans ?_ (Below.mono (by with_reducible assumption) (by (first | omega | (simp; done) | (simp; omega)))))))) 2 (by omega)⟩)
          (first | (go_at_call 49; refine (laws_eqClockOp s t _).mono ?_; rintro e w2 ⟨rfl, hb2⟩))
        go_wp2
        · have hst : (!decide (s = t)) = true := by assumption
          go_ret
          exact ⟨ret_bool (ne_of_at HU.out HV.out (by simpa using hst)).symm, by (repeat (first | (with_reducible exact Below.refl _ _) | (with_reducible assumption) | ((with_reducible refine Below.setCell ?_ ?_ _); rotate_left; focus (first | omega | (simp; done) | (simp; omega))) | ((with_reducible refine Below.alloc ?_ ?_ _); rotate_left; focus (first | omega | (simp; done) | (simp; omega))) | (with_reducible refine Below.drew ?_) | (with_reducible refine below_drewN ?_ _) | (refine Below.trans ?_ (Below.mono (by with_reducible assumption) (by (first | omega | (simp; done) | (simp; omega)))))))⟩
        · have hst : (!decide (s = t)) = false := by assumption
          go_roundw
          case rel => exact ⟨k + 1, by omega, by go_num, by (repeat (first | (with_reducible exact Below.refl _ _) | (with_reducible assumption) | ((with_reducible refine Below.setCell ?_ ?_ _); rotate_left; focus (first | omega | (simp; done) | (simp; omega))) | ((with_reducible refine Below.alloc ?_ ?_ _); rotate_left; focus (first | omega | (simp; done) | (simp; omega))) | (with_reducible refine Below.drew ?_) | (with_reducible refine below_drewN ?_ _) | (refine Below.trans ?_ (Below.mono (by with_reducible assumption) (by (first | omega | (simp; done) | (simp; omega))))))), take_step he.out HU.out HV.out (by simpa using hst)⟩
          case measure => simp [intOf]; omega
      · obtain rfl : k = n := by omega
        go_wp2
        go_ret
        exact ⟨ret_bool (by simp [eq_of_take he.out Hn.out Hn'.out]), by (repeat (first | (with_reducible exact Below.refl _ _) | (with_reducible assumption) | ((with_reducible refine Below.setCell ?_ ?_ _); rotate_left; focus (first | omega | (simp; done) | (simp; omega))) | ((with_reducible refine Below.alloc ?_ ?_ _); rotate_left; focus (first | omega | (simp; done) | (simp; omega))) | (with_reducible refine Below.drew ?_) | (with_reducible refine below_drewN ?_ _) | (refine Below.trans ?_ (Below.mono (by with_reducible assumption) (by (first | omega | (simp; done) | (simp; omega)))))))⟩
  · go_enter Try.func23, Try.ntmps23
    have hb : ((n : Int) != n') = true := by simp; omega
    go_wp2
    go_ret
    exact ⟨ret_bool (ne_of_len Hn.out Hn'.out hl).symm, by (repeat (first | (with_reducible exact Below.refl _ _) | (with_reducible assumption) | ((with_reducible refine Below.setCell ?_ ?_ _); rotate_left; focus (first | omega | (simp; done) | (simp; omega))) | ((with_reducible refine Below.alloc ?_ ?_ _); rotate_left; focus (first | omega | (simp; done) | (simp; omega))) | (with_reducible refine Below.drew ?_) | (with_reducible refine below_drewN ?_ _) | (refine Below.trans ?_ (Below.mono (by with_reducible assumption) (by (first | omega | (simp; done) | (simp; omega)))))))⟩
set_option maxHeartbeats 1600000 in
theorem laws_markClockOpS (A : Option Addr) (c lo hi k n : Nat) (cs : List Value) (w : World) (hw : Win w lo hi 54 A cs) (hf : cs.length = n * 3) (hm : n ≤ 2097152) (hk : k ≤ 1073741824) :
    Calls Try.prog 24 #[.slice A n c, .int .i64 k] w fun e w' => e = .returned (.int .i64 ((k + n * 3 : Nat) : Int)) ∧ Win w' lo hi 54 A (markInts k (n * 3)) ∧ Out (InR lo hi) w w' := by
  have Hf := Lib.hid hf
  clear hf
  go_enter Try.func24, Try.ntmps24
  go_wp2
  go_loopw [1, 5] (fun kk i wr => ∃ j : Nat, j ≤ n ∧ i = .int .i64 j ∧ kk = .int .i64 ((k + j * 3 : Nat) : Int) ∧ Marked wr lo hi 54 A (markInts k (n * 3)) (j * 3) ∧ Out (InR lo hi) w wr) (fun _ i _ => n - (intOf i).toNat)
  case atStart => exact ⟨0, Nat.zero_le _, rfl, rfl, Marked.start hw (by rw [markInts_len]; exact Hf.out), Out.refl _ _⟩
  case round =>
    obtain ⟨j, hj, rfl, rfl, hmk, ho⟩ := hrel
    by_cases hlt : j < n
    ·
      obtain ⟨g, off, rfl, h1, h2, ⟨u0, hd0⟩, he0⟩ := hmk.at_ (i := j * 3) (by rw [markInts_len]; omega)
      obtain ⟨g'1, off'1, e1, -, -, ⟨u1, hd1⟩, he1⟩ := hmk.at_ (i := j * 3 + 1) (by rw [markInts_len]; omega)
      simp only [Option.some.injEq, Addr.mk.injEq, and_true] at e1
      obtain ⟨rfl, rfl⟩ := e1
      rw [← Nat.add_assoc] at hd1 he1
      obtain ⟨g'2, off'2, e2, -, -, ⟨u2, hd2⟩, he2⟩ := hmk.at_ (i := j * 3 + 2) (by rw [markInts_len]; omega)
      simp only [Option.some.injEq, Addr.mk.injEq, and_true] at e2
      obtain ⟨rfl, rfl⟩ := e2
      rw [← Nat.add_assoc] at hd2 he2
      have R := Lib.hid (((hmk.step (markInts_at k (n * 3) (j * 3) (by omega))).step (markInts_at k (n * 3) (j * 3 + 1) (by omega))).step (markInts_at k (n * 3) (j * 3 + 2) (by omega)))
      go_wp2
      go_roundw
      case rel =>
        refine ⟨j + 1, by omega, by go_num, by go_num, ?_, (((ho.setCell (p := ⟨g, off + j * 3, none⟩) ⟨h1, h2⟩ _).setCell (p := ⟨g, off + j * 3 + 1, none⟩) ⟨h1, h2⟩ _).setCell (p := ⟨g, off + j * 3 + 2, none⟩) ⟨h1, h2⟩ _)⟩
        rw [Nat.add_mul]
        have R' := R.out
        push_cast at R'
        simpa [Nat.add_assoc, Int.add_assoc] using R'
      case measure => simp [intOf]; omega
    · obtain rfl : j = n := by omega
      go_wp2
      go_ret
      exact ⟨rfl, hmk.done' (markInts_len _ _), ho⟩
end Go.Proofs.Ytfbgmpcknhjinaa

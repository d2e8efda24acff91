/- Contracts of the helpers on []Timer (printed by wip/gen/gen2.py). -/
import Derived.Test.YtfbgmpcknhjinaaRows
import Derived.Test.YtfbgmpcknhjinaaBuilt
import Derived.Test.YtfbgmpcknhjinaaTimer
set_option linter.unusedSimpArgs false
set_option linter.unusedVariables false
set_option maxRecDepth 20000
namespace Go.Proofs.Ytfbgmpcknhjinaa
open Go.RowKit
def TimerR : Rep Timer := Rep.flat 2 Timer.cells Timer.len (fun x => True) 2 (fun k _ => ⟨(k : Int), ((k + 1 : Nat) : Int)⟩) (fun x => 0)
theorem rd_Timer {w : World} {B : Nat} {cs : List Value} {x : Timer} (h : TimerR.Rd w B cs x) : cs = [.int .i64 x.At, .int .i64 x.Id] := h.1
theorem own_Timer {w : World} {S : Nat → Prop} {cs : List Value} {x : Timer} (h : TimerR.Own w S cs x) : cs = [.int .i64 x.At, .int .i64 x.Id] := h.1
theorem of_rd_Timer {w : World} {B : Nat} {x : Timer} : TimerR.Rd w B [.int .i64 x.At, .int .i64 x.Id] x := ⟨rfl, trivial⟩
theorem of_own_Timer {w : World} {S : Nat → Prop} {x : Timer} : TimerR.Own w S [.int .i64 x.At, .int .i64 x.Id] x := ⟨rfl, trivial⟩
theorem sz_Timer (x : Timer) : TimerR.sz x = 0 := rfl
set_option maxHeartbeats 400000 in
theorem to2_Timer (cs : List Value) (x : Timer) (w : World) (h : TimerR.Rd w w.heap.size cs x) (hm : TimerR.sz x ≤ 1048576) :
    Calls Try.prog 56 #[.agg cs.toArray] w fun e w' => ∃ cs', e = .returned (.agg cs'.toArray) ∧ TimerR.Own w' (InR w.heap.size w'.heap.size) cs' x ∧ Below w.heap.size w w' := by
  obtain rfl := rd_Timer h
  go_enter Try.func56, Try.ntmps56
  go_wp2
  refine bodyPost_ret (v := .agg #[.int .i64 x.At, .int .i64 x.Id]) (by simp [results, Try.results56, go_sem]) rfl ⟨[.int .i64 x.At, .int .i64 x.Id], rfl, of_own_Timer, by (repeat (first | (with_reducible exact Below.refl _ _) | (with_reducible assumption) | ((with_reducible refine Below.setCell ?_ ?_ _); rotate_left; focus (first | omega | (simp; done) | (simp; omega))) | ((with_reducible refine Below.alloc ?_ ?_ _); rotate_left; focus (first | omega | (simp; done) | (simp; omega))) | (with_reducible refine Below.drew ?_) | (with_reducible refine below_drewN ?_ _) | (refine Below.trans ?_ (Below.mono (by with_reducible assumption) (by (first | omega | (simp; done) | (simp; omega)))))))⟩
set_option maxHeartbeats 800000 in
theorem eq2_Timer (cs cs' : List Value) (x y : Timer) (w : World) (h : TimerR.Rd w w.heap.size cs x) (h' : TimerR.Rd w w.heap.size cs' y) (m : TimerR.sz x ≤ 140737488351232) (m' : TimerR.sz y ≤ 140737488351232) :
    Calls Try.prog 61 #[.agg cs.toArray, .agg cs'.toArray] w fun e w' => e = .returned (.bool (decide (x = y))) ∧ Below w.heap.size w w' := by
  obtain rfl := rd_Timer h
  obtain rfl := rd_Timer h'
  go_enter Try.func61, Try.ntmps61
  go_wp2
  all_goals (go_ret; exact ⟨ret_bool (by cases x; cases y; simp_all), by (repeat (first | (with_reducible exact Below.refl _ _) | (with_reducible assumption) | ((with_reducible refine Below.setCell ?_ ?_ _); rotate_left; focus (first | omega | (simp; done) | (simp; omega))) | ((with_reducible refine Below.alloc ?_ ?_ _); rotate_left; focus (first | omega | (simp; done) | (simp; omega))) | (with_reducible refine Below.drew ?_) | (with_reducible refine below_drewN ?_ _) | (refine Below.trans ?_ (Below.mono (by with_reducible assumption) (by (first | omega | (simp; done) | (simp; omega)))))))⟩)
theorem cnt_bd_TimerS (xs : List Timer) : cntList TimerR xs ≤ 16 * szList TimerR xs := by
  have h : cntList TimerR xs = 2 * xs.length := by
    unfold cntList; induction xs with
    | nil => rfl
    | cons x xs ih => rw [List.map_cons, List.sum_cons, ih, List.length_cons]; show 2 + _ = _; omega
  unfold szList; omega
set_option maxHeartbeats 1600000 in
theorem sz2_TimerS (v : Value) (xs : List Timer) (left : Int) (w : World) (h : SlRd TimerR w w.heap.size v xs) (h1 : -1 ≤ left) (h2 : left ≤ 1048576) :
    Calls Try.prog 32 #[v, .int .i64 left] w fun e w' => e = .returned (.int .i64 (leftOf left (szList TimerR xs))) ∧ Below w.heap.size w w' := by
  obtain ⟨A, c, rfl⟩ := h.form
  obtain ⟨hc1, hc2⟩ := h.caps
  have hz : szList TimerR xs = xs.length := by
    have key : ∀ ys : List Timer, (ys.map TimerR.sz).sum = 0 := by
      intro ys
      induction ys with
      | nil => rfl
      | cons y ys ih => rw [List.map_cons, List.sum_cons, ih]; rfl
    have := key xs
    unfold szList; omega
  rw [hz]
  generalize xs.length = n at *
  go_enter Try.func32, Try.ntmps32
  go_wp2
  all_goals (go_ret; exact ⟨ret_int (by unfold leftOf; split <;> omega), Below.refl _ _⟩)
set_option maxHeartbeats 3200000 in
theorem to2_TimerS (v : Value) (xs : List Timer) (w : World) (h : SlRd TimerR w w.heap.size v xs) (hm : szList TimerR xs ≤ 1048576) :
    Calls Try.prog 36 #[v] w fun e w' => ∃ v', e = .returned v' ∧ SlOwn TimerR 62 w' (InR w.heap.size w'.heap.size) v' xs ∧ Below w.heap.size w w' := by
  obtain ⟨i0, hi, hI0, hI1, hI2⟩ := info_parts info_Timer
  obtain ⟨A, c, rfl⟩ := h.form
  have hlen : xs.length ≤ 1048576 := Nat.le_trans (Nat.le_add_right _ _) hm
  have HE : Hid (∀ k x, xs[k]? = some x → TimerR.sz x ≤ 1048576) := Lib.hid (fun k x hx => Nat.le_trans (szList_one hx) hm)
  generalize hn : xs.length = n at *
  have Hn := Lib.hid hn
  clear hn
  go_enter Try.func36, Try.ntmps36
  go_wp2_with (first | (at_make; refine wpList_make_full _ rfl _ _ 26 rfl w.heap.size 62 i0 _ 2 Try.underlying26 hi hI0 hI1 .i64 .i64 _ _ n rfl rfl (by omega) (by omega) (by rw [hI2]; omega) (by unfold maxLen; omega) (Nat.le_refl _) ?_; intro w1 hown hg))
  have hb0 : Below w.heap.size w w1 := (Below.refl _ _).grown hg (Nat.le_refl _) (by simp)
  obtain ⟨css0, z1, z2, z3⟩ := Rows.of_any hown (by omega)
  replace z3 := z3.wide (T := fun g => g = w.heap.size) (fun g hg => by simpa [Value.ownBlock] using hg.symm)
  have hlt0 := own_lt hown _ rfl
  clear hown hg
  go_loopw [4] (fun i wr => ∃ (k : Nat) (css : List (List Value)) (Ss : List (Nat → Prop)), k ≤ n ∧ i = .int .i64 k ∧ Rows wr (fun g => g = w.heap.size) 62 2 (some ⟨w.heap.size, 0, none⟩) css ∧ Hid (css.length = n) ∧ Hid (∀ cs ∈ css, cs.length = 2) ∧ Built TimerR wr (w.heap.size + 1) Ss (css.take k) (xs.take k) ∧ Below w.heap.size w wr ∧ w.heap.size < wr.heap.size) (fun i _ => n - (intOf i).toNat)
  case atStart => exact ⟨0, css0, [], Nat.zero_le _, rfl, z3, z1, z2, Built.nil _ _ _, hb0, hlt0⟩
  case round =>
    obtain ⟨k, css, Ss, hk, rfl, hrw, hcl, hcm, hbt, hb, hzr⟩ := hrel
    clear hb0 hlt0 z1 z2 z3
    by_cases hlt : k < n
    · have hlx : k < xs.length := by rw [Hn.out]; exact hlt
      have hx := List.getElem?_eq_getElem hlx
      generalize xs[k]'hlx = x at hx
      obtain ⟨b, off, cs, rfl, hab, hrd, hcell⟩ := (h.below hb (Nat.le_refl _)).elem hx
      have HX := Lib.hid hx
      have hsz := HE.out k x hx
      clear hx
      have hrd2 := TimerR.rd_more hrd (by omega : w.heap.size ≤ wr.heap.size)
      obtain rfl := rd_Timer hrd
      have hc0_ : wr.cell? ⟨b, off + k * 2, none⟩ = some (.int .i64 x.At) := hcell 0 _ rfl
      have hc1_ : wr.cell? ⟨b, off + k * 2 + 1, none⟩ = some (.int .i64 x.Id) := hcell 1 _ rfl
      clear hcell hrd
      go_wp2_with fail
      refine (to2_Timer _ x _ (TimerR.rd_keep hrd2 (by (repeat (first | (with_reducible exact Below.refl _ _) | (with_reducible assumption) | ((with_reducible refine Below.setCell ?_ ?_ _); rotate_left; focus (first | omega | (simp; done) | (simp; omega))) | ((with_reducible refine Below.alloc ?_ ?_ _); rotate_left; focus (first | omega | (simp; done) | (simp; omega))) | (with_reducible refine Below.drew ?_) | (with_reducible refine below_drewN ?_ _) | (refine Below.trans ?_ (Below.mono (by with_reducible assumption) (by (first | omega | (simp; done) | (simp; omega)))))))) (by first | omega | (simp; done) | (simp; omega))) hsz).mono ?_
      rintro e w2 ⟨_, rfl, ho2, hb2⟩
      have ho2' := ho2
      obtain rfl := own_Timer ho2
      have hkl : k < css.length := by rw [hcl.out]; exact hlt
      have hje := List.getElem?_eq_getElem hkl
      have hone := hcm.out _ (List.getElem_mem hkl)
      generalize css[k]'hkl = cs0 at hje hone
      obtain ⟨u0, u1, rfl⟩ : ∃ u0 u1, cs0 = [u0, u1] := by
        match cs0, hone with
        | [u0, u1], _ => exact ⟨u0, u1, rfl⟩
      have J0 := RowsJ.start (hrw.keep hb2) hcm.out hje
      obtain ⟨_, hgl, hat⟩ := J0.at_
      have hz2 := hb2.size
      have hd0_ : w2.cell? ⟨w.heap.size, k * 2, none⟩ = some u0 := by have := (hat 0 _ rfl).1; simpa only [Nat.zero_add, Nat.add_zero] using this
      have he0_ : w2.frozen? ⟨w.heap.size, k * 2, none⟩ = false := by have := (hat 0 _ rfl).2; simpa only [Nat.zero_add, Nat.add_zero] using this
      have hd1_ : w2.cell? ⟨w.heap.size, k * 2 + 1, none⟩ = some u1 := by have := (hat 1 _ rfl).1; simpa only [Nat.zero_add, Nat.add_zero] using this
      have he1_ : w2.frozen? ⟨w.heap.size, k * 2 + 1, none⟩ = false := by have := (hat 1 _ rfl).2; simpa only [Nat.zero_add, Nat.add_zero] using this
      clear hat hone
      have HJ := Lib.hid hje
      clear hje
      go_wp2
      go_roundw
      case rel =>
        have J1 := J0.set (i := 0) (by omega) (.int .i64 x.At)
        have J2 := J1.set (i := 1) (by omega) (.int .i64 x.Id)
        simp only [Nat.zero_add, Nat.add_zero, List.set_cons_zero, List.set_cons_succ] at J2
        have hpre : ∀ s ∈ Ss, ∀ g, s g → w.heap.size + 1 ≤ g ∧ g < wr.heap.size := hbt.inn
        have hbx : Below wr.heap.size wr w2 := by (repeat (first | (with_reducible exact Below.refl _ _) | (with_reducible assumption) | ((with_reducible refine Below.setCell ?_ ?_ _); rotate_left; focus (first | omega | (simp; done) | (simp; omega))) | ((with_reducible refine Below.alloc ?_ ?_ _); rotate_left; focus (first | omega | (simp; done) | (simp; omega))) | (with_reducible refine Below.drew ?_) | (with_reducible refine below_drewN ?_ _) | (refine Below.trans ?_ (Below.mono (by with_reducible assumption) (by (first | omega | (simp; done) | (simp; omega)))))))
        have B1 := hbt.keep hbx
        have B2 := B1.setC (a := ⟨w.heap.size, k * 2, none⟩) (fun s hs hg => by have := (hpre s hs _ hg).1; simp at this; omega) (.int .i64 x.At)
        have B3 := B2.setC (a := ⟨w.heap.size, k * 2 + 1, none⟩) (fun s hs hg => by have := (hpre s hs _ hg).1; simp at this; omega) (.int .i64 x.Id)
        have hOf : Out (Off wr.heap.size w2.heap.size) w2 ((w2.setCell ⟨w.heap.size, k * 2, none⟩ (.int .i64 x.At)).setCell ⟨w.heap.size, k * 2 + 1, none⟩ (.int .i64 x.Id)) := by (repeat (first | (with_reducible exact Out.refl _ _) | (with_reducible assumption) | ((with_reducible refine Out.setCell ?_ ?_ _); rotate_left; focus (first | (refine Or.inl ?_; (first | omega | (simp; done) | (simp; omega))) | (refine Or.inr ?_; (first | omega | (simp; done) | (simp; omega))))) | (with_reducible refine Out.alloc ?_ _) | (with_reducible refine Out.drew ?_) | (with_reducible refine Out.drewN ?_ _) | (refine Out.step ?_ (by with_reducible assumption))))
        have hN := TimerR.own_off (TimerR.own_wide ho2' (inR_mono (lo' := wr.heap.size) (hi' := w2.heap.size) (by first | omega | (simp; done) | (simp; omega)) (by first | omega | (simp; done) | (simp; omega)))) hOf
        have B9 := B3.snoc hN (by omega) (by first | omega | (simp; done) | (simp; omega)) (fun s hs g hg => (hpre s hs g hg).2)
        refine ⟨k + 1, css.set k [.int .i64 x.At, .int .i64 x.Id], Ss ++ [InR wr.heap.size w2.heap.size], by omega, by go_num, J2.rows, by rw [List.length_set]; exact hcl, Lib.hid J2.len'.2, ?_, by (repeat (first | (with_reducible exact Below.refl _ _) | (with_reducible assumption) | ((with_reducible refine Below.setCell ?_ ?_ _); rotate_left; focus (first | omega | (simp; done) | (simp; omega))) | ((with_reducible refine Below.alloc ?_ ?_ _); rotate_left; focus (first | omega | (simp; done) | (simp; omega))) | (with_reducible refine Below.drew ?_) | (with_reducible refine below_drewN ?_ _) | (refine Below.trans ?_ (Below.mono (by with_reducible assumption) (by (first | omega | (simp; done) | (simp; omega))))))), (by first | omega | (simp; done) | (simp; omega))⟩
        rw [take_snoc HX.out, List.take_succ_eq_append_getElem (by rw [List.length_set]; exact hkl), List.take_set_of_le (Nat.le_refl _), List.getElem_set_self]
        exact B9
      case measure => simp [intOf]; omega
    · obtain rfl : k = n := by omega
      have h1 : css.take k = css := List.take_of_length_le (by rw [hcl.out]; exact Nat.le_refl _)
      have h2 : xs.take k = xs := List.take_of_length_le (by rw [Hn.out]; exact Nat.le_refl _)
      rw [h1, h2] at hbt
      have H1 := Lib.hid h1
      have H2 := Lib.hid h2
      clear h1 h2
      go_wp2
      go_ret
      refine ⟨_, rfl, ?_, hb⟩
      have hf := hbt.own (S := InR w.heap.size wr.heap.size) (c := k) hrw (by rw [Hn.out]; exact Nat.le_refl _) (by omega) (fun g hg => by rw [hg]; exact ⟨Nat.le_refl _, hzr⟩) (fun s hs g hg => ⟨⟨by have := (hbt.inn s hs g hg).1; omega, (hbt.inn s hs g hg).2⟩, fun hg' => by have := (hbt.inn s hs g hg).1; omega⟩)
      rw [Hn.out] at hf
      exact hf
set_option maxHeartbeats 3200000 in
theorem eq2_TimerS (v v' : Value) (xs ys : List Timer) (w : World) (h : SlRd TimerR w w.heap.size v xs) (h' : SlRd TimerR w w.heap.size v' ys) (hm : szList TimerR xs ≤ 140737488351232) (hm' : szList TimerR ys ≤ 140737488351232) :
    Calls Try.prog 40 #[v, v'] w fun e w' => e = .returned (.bool (decide (xs = ys))) ∧ Below w.heap.size w w' := by
  obtain ⟨A, c, rfl⟩ := h.form
  obtain ⟨A', c', rfl⟩ := h'.form
  obtain ⟨hc1, hc2⟩ := h.caps
  obtain ⟨hc1', hc2'⟩ := h'.caps
  have HE : Hid (∀ k x, xs[k]? = some x → TimerR.sz x ≤ 140737488351232) := Lib.hid (fun k x hx => Nat.le_trans (szList_one hx) hm)
  have HE' : Hid (∀ k x, ys[k]? = some x → TimerR.sz x ≤ 140737488351232) := Lib.hid (fun k x hx => Nat.le_trans (szList_one hx) hm')
  clear hm hm'
  generalize hn : xs.length = n at *
  have Hn := Lib.hid hn
  clear hn
  generalize hn' : ys.length = n' at *
  have Hn' := Lib.hid hn'
  clear hn'
  by_cases hl : n = n'
  · subst hl
    go_enter Try.func40, Try.ntmps40
    go_wp2
    go_loopw [5] (fun i wr => ∃ k : Nat, k ≤ n ∧ i = .int .i64 k ∧ Below w.heap.size w wr ∧ Hid (xs.take k = ys.take k)) (fun i _ => n - (intOf i).toNat)
    case atStart => exact ⟨0, Nat.zero_le _, rfl, Below.refl _ _, rfl⟩
    case round =>
      obtain ⟨k, hk, rfl, hb, he⟩ := hrel
      have hzr := hb.size
      by_cases hlt : k < n
      · have hlx : k < xs.length := by rw [Hn.out]; exact hlt
        have hly : k < ys.length := by rw [Hn'.out]; exact hlt
        have hx := List.getElem?_eq_getElem hlx
        have hy := List.getElem?_eq_getElem hly
        generalize xs[k]'hlx = x at hx
        generalize ys[k]'hly = y at hy
        obtain ⟨b, off, cs, rfl, hab, hrd, hcell⟩ := h.elem hx
        obtain ⟨b', off', cs', rfl, hab', hrd', hcell'⟩ := h'.elem hy
        have hsx := HE.out k x hx
        have hsy := HE'.out k y hy
        have HX := Lib.hid hx
        have HY := Lib.hid hy
        clear hx hy
        have hrd2 := hrd
        have hrd2' := hrd'
        obtain rfl := rd_Timer hrd
        obtain rfl := rd_Timer hrd'
        have C := Lib.hid (fun (w' : World) (hb' : Below w.heap.size w w') (i : Nat) (u : Value) (hu : [.int .i64 x.At, .int .i64 x.Id][i]? = some u) => (hb'.cell (p := ⟨b, off + (k * 2 + i), none⟩) hab).trans (hcell i u hu))
        have C' := Lib.hid (fun (w' : World) (hb' : Below w.heap.size w w') (i : Nat) (u : Value) (hu : [.int .i64 y.At, .int .i64 y.Id][i]? = some u) => (hb'.cell (p := ⟨b', off' + (k * 2 + i), none⟩) hab').trans (hcell' i u hu))
        clear hcell hcell' hrd hrd'
        go_wp2
        go_region_held3 (fun w' => w'.cell? ⟨b, off + k * 2, none⟩ = some (.int .i64 x.At) ∧ w'.cell? ⟨b, off + k * 2 + 1, none⟩ = some (.int .i64 x.Id) ∧ w'.cell? ⟨b', off' + k * 2, none⟩ = some (.int .i64 y.At) ∧ w'.cell? ⟨b', off' + k * 2 + 1, none⟩ = some (.int .i64 y.Id))
          (first | exact ⟨C.out _ (by (repeat (first | (with_reducible exact Below.refl _ _) | (with_reducible assumption) | ((with_reducible refine Below.setCell ?_ ?_ _); rotate_left; focus (first | omega | (simp; done) | (simp; omega))) | ((with_reducible refine Below.alloc ?_ ?_ _); rotate_left; focus (first | omega | (simp; done) | (simp; omega))) | (with_reducible refine Below.drew ?_) | (with_reducible refine below_drewN ?_ _) | (refine Below.trans ?_ (Below.mono (by with_reducible assumption) (by (first | omega | (simp; done) | (simp; omega)))))))) 0 _ rfl, C.out _ (by (repeat (first | (with_reducible exact Below.refl _ _) | (with_reducible assumption) | ((with_reducible refine Below.setCell ?_ ?_ _); rotate_left; focus (first | omega | (simp; done) | (simp; omega))) | ((with_reducible refine Below.alloc ?_ ?_ _); rotate_left; focus (first | omega | (simp; done) | (simp; omega))) | (with_reducible refine Below.drew ?_) | (with_reducible refine below_drewN ?_ _) | (refine Below.trans ?_ (Below.mono (by with_reducible assumption) (by (first | omega | (simp; done) | (simp; omega)))))))) 1 _ rfl, C'.out _ (by (repeat (first | (with_reducible exact Below.refl _ _) | (with_reducible assumption) | ((with_reducible refine Below.setCell ?_ ?_ _); rotate_left; focus (first | omega | (simp; done) | (simp; omega))) | ((with_reducible refine Below.alloc ?_ ?_ _); rotate_left; focus (first | omega | (simp; done) | (simp; omega))) | (with_reducible refine Below.drew ?_) | (with_reducible refine below_drewN ?_ _) | (refine Below.trans ?_ (Below.mono (by with_reducible assumption) (by (first | omega | (simp; done) | (simp; omega)))))))) 0 _ rfl, C'.out _ (by (repeat (first | (with_reducible exact Below.refl _ _) | (with_reducible assumption) | ((with_reducible refine Below.setCell ?_ ?_ _); rotate_left; focus (first | omega | (simp; done) | (simp; omega))) | ((with_reducible refine Below.alloc ?_ ?_ _); rotate_left; focus (first | omega | (simp; done) | (simp; omega))) | (with_reducible refine Below.drew ?_) | (with_reducible refine below_drewN ?_ _) | (refine Below.trans ?_ (Below.mono (by with_reducible assumption) (by (first | omega | (simp; done) | (simp; omega)))))))) 1 _ rfl⟩)
          (first | (go_at_call 61; refine (eq2_Timer _ _ x y _ (TimerR.rd_keep hrd2 (by (repeat (first | (with_reducible exact Below.refl _ _) | (with_reducible assumption) | ((with_reducible refine Below.setCell ?_ ?_ _); rotate_left; focus (first | omega | (simp; done) | (simp; omega))) | ((with_reducible refine Below.alloc ?_ ?_ _); rotate_left; focus (first | omega | (simp; done) | (simp; omega))) | (with_reducible refine Below.drew ?_) | (with_reducible refine below_drewN ?_ _) | (refine Below.trans ?_ (Below.mono (by with_reducible assumption) (by (first | omega | (simp; done) | (simp; omega)))))))) (by first | omega | (simp; done) | (simp; omega))) (TimerR.rd_keep hrd2' (by (repeat (first | (with_reducible exact Below.refl _ _) | (with_reducible assumption) | ((with_reducible refine Below.setCell ?_ ?_ _); rotate_left; focus (first | omega | (simp; done) | (simp; omega))) | ((with_reducible refine Below.alloc ?_ ?_ _); rotate_left; focus (first | omega | (simp; done) | (simp; omega))) | (with_reducible refine Below.drew ?_) | (with_reducible refine below_drewN ?_ _) | (refine Below.trans ?_ (Below.mono (by with_reducible assumption) (by (first | omega | (simp; done) | (simp; omega)))))))) (by first | omega | (simp; done) | (simp; omega))) hsx hsy).mono ?_; rintro e w2 ⟨rfl, hb2⟩))
        go_wp2
        · have hst : (!decide (x = y)) = true := by assumption
          go_ret
          exact ⟨ret_bool (ne_of_at HX.out HY.out (by simpa using hst)).symm, by (repeat (first | (with_reducible exact Below.refl _ _) | (with_reducible assumption) | ((with_reducible refine Below.setCell ?_ ?_ _); rotate_left; focus (first | omega | (simp; done) | (simp; omega))) | ((with_reducible refine Below.alloc ?_ ?_ _); rotate_left; focus (first | omega | (simp; done) | (simp; omega))) | (with_reducible refine Below.drew ?_) | (with_reducible refine below_drewN ?_ _) | (refine Below.trans ?_ (Below.mono (by with_reducible assumption) (by (first | omega | (simp; done) | (simp; omega)))))))⟩
        · have hst : (!decide (x = y)) = false := by assumption
          go_roundw
          case rel => exact ⟨k + 1, by omega, by go_num, by (repeat (first | (with_reducible exact Below.refl _ _) | (with_reducible assumption) | ((with_reducible refine Below.setCell ?_ ?_ _); rotate_left; focus (first | omega | (simp; done) | (simp; omega))) | ((with_reducible refine Below.alloc ?_ ?_ _); rotate_left; focus (first | omega | (simp; done) | (simp; omega))) | (with_reducible refine Below.drew ?_) | (with_reducible refine below_drewN ?_ _) | (refine Below.trans ?_ (Below.mono (by with_reducible assumption) (by (first | omega | (simp; done) | (simp; omega))))))), take_step he.out HX.out HY.out (by simpa using hst)⟩
          case measure => simp [intOf]; omega
      · obtain rfl : k = n := by omega
        go_wp2
        go_ret
        exact ⟨ret_bool (by simp [eq_of_take he.out Hn.out Hn'.out]), by (repeat (first | (with_reducible exact Below.refl _ _) | (with_reducible assumption) | ((with_reducible refine Below.setCell ?_ ?_ _); rotate_left; focus (first | omega | (simp; done) | (simp; omega))) | ((with_reducible refine Below.alloc ?_ ?_ _); rotate_left; focus (first | omega | (simp; done) | (simp; omega))) | (with_reducible refine Below.drew ?_) | (with_reducible refine below_drewN ?_ _) | (refine Below.trans ?_ (Below.mono (by with_reducible assumption) (by (first | omega | (simp; done) | (simp; omega)))))))⟩
  · go_enter Try.func40, Try.ntmps40
    have hb : ((n : Int) != n') = true := by simp; omega
    go_wp2
    go_ret
    exact ⟨ret_bool (ne_of_len Hn.out Hn'.out hl).symm, Below.refl _ _⟩
theorem cnt1_Timer (x : Timer) (k : Nat) : k + TimerR.cnt x = k + 1 + 1 := by
  rfl
theorem mark1_Timer (x : Timer) (k : Nat) : TimerR.mark k x = ⟨((k : Nat) : Int), ((k + 1 : Nat) : Int)⟩ := rfl
set_option maxHeartbeats 6400000 in
theorem mark2_TimerS (v : Value) (xs : List Timer) (S : Nat → Prop) (k : Nat) (w : World) (h : SlOwn TimerR 62 w S v xs) (hm : szList TimerR xs ≤ 2097152) (hS : ∀ g, S g → g < w.heap.size) (h0 : 0 < k) (hk : k ≤ 100000000) :
    Calls Try.prog 41 #[v, .int .i64 k] w fun e w' => e = .returned (.int .i64 ((k + cntList TimerR xs : Nat) : Int)) ∧ SlOwn TimerR 62 w' S v (mkList TimerR k xs) ∧ Out S w w' := by
  have hcb : cntList TimerR xs ≤ 35000000 := by have := cnt_bd_TimerS xs; omega
  obtain ⟨A, c, css0, S0, Ss, rfl, hc1, hc2, hrw, hall, hS0, hSs, hpw⟩ := h
  have HT : Hid (∀ j x, xs[j]? = some x → cntList TimerR (xs.take j) + TimerR.cnt x ≤ cntList TimerR xs) := Lib.hid (fun j x hx => by rw [← cntList_snoc TimerR hx]; exact sum_take_le _ _ _)
  have HSz : Hid (∀ j x, xs[j]? = some x → TimerR.sz x ≤ 2097152) := Lib.hid (fun j x hx => Nat.le_trans (szList_one hx) hm)
  have HF : Hid (∀ (w' : World) (css : List (List Value)), Rows w' S0 62 2 A css → OwnAll TimerR w' Ss css (mkList TimerR k xs) → SlOwn TimerR 62 w' S (.slice A xs.length c) (mkList TimerR k xs)) := Lib.hid (fun w' css a b => ⟨A, c, css, S0, Ss, by rw [mkList_len], by rw [mkList_len]; exact hc1, hc2, a, b, hS0, hSs, hpw⟩)
  have HP : Hid (∀ i j (s u : Nat → Prop), i ≠ j → Ss[i]? = some s → Ss[j]? = some u → ∀ g, s g → ¬ u g) := Lib.hid (fun i j s u hij hi hj => pairwise_get hpw (fun a b hab g hg hg' => hab g hg' hg) hij hi hj)
  have HA : Hid (∀ i (s : Nat → Prop), Ss[i]? = some s → ∀ g, s g → S g ∧ ¬ S0 g) := Lib.hid (fun i s hi => hSs s (List.mem_of_getElem? hi))
  have hall0 : OwnAll TimerR w Ss css0 (mkTo TimerR k xs 0) := by rw [mkTo_zero]; exact hall
  have HL : Hid (Ss.length = xs.length) := Lib.hid hall.2.1
  generalize hn : xs.length = n at *
  have Hn := Lib.hid hn
  generalize hN : cntList TimerR xs = N at *
  have HN := Lib.hid hN
  clear hn hN hm hall hpw hSs
  go_enter Try.func41, Try.ntmps41
  go_wp2
  go_loopw [1, 5] (fun kk i wr => ∃ (j q : Nat) (css : List (List Value)), j ≤ n ∧ i = .int .i64 j ∧ kk = .int .i64 ((k : Int) + (q : Int)) ∧ Hid (q = cntList TimerR (xs.take j)) ∧ Rows wr S0 62 2 A css ∧ OwnAll TimerR wr Ss css (mkTo TimerR k xs j) ∧ Out S w wr) (fun _ i _ => n - (intOf i).toNat)
  case atStart => exact ⟨0, 0, css0, Nat.zero_le _, rfl, by simp, rfl, hrw, hall0, Out.refl _ _⟩
  case round =>
    clear hrw hall0
    obtain ⟨j, q, css, hj, rfl, rfl, hq, hrw, hall, ho⟩ := hrel
    have hzr := ho.size
    by_cases hlt : j < n
    · have hlx : j < xs.length := by rw [Hn.out]; exact hlt
      have hx := List.getElem?_eq_getElem hlx
      generalize xs[j]'hlx = x at hx
      have hqb := HT.out j x hx
      have hsz := HSz.out j x hx
      rw [← hq.out] at hqb
      have hy := mkTo_get TimerR k hx
      have hcl : css.length = xs.length := by rw [hall.1, mkTo_len _ _ _ _ (Nat.le_of_lt hlx)]
      have hsl := HL.out
      have hnx := Hn.out
      have hje := List.getElem?_eq_getElem (l := css) (i := j) (by omega)
      have hse := List.getElem?_eq_getElem (l := Ss) (i := j) (by omega)
      generalize css[j]'(by omega) = cs at hje
      generalize Ss[j]'(by omega) = Sj at hse
      have hown := hall.2.2 j Sj cs x hse hje hy
      obtain ⟨g, off, rfl⟩ := hrw.addr (by omega)
      have hlens : ∀ cs ∈ css, cs.length = 2 := fun cs' hcs => by
        obtain ⟨i, hi, rfl⟩ := List.mem_iff_getElem.1 hcs
        have hi1 : i < Ss.length := by omega
        have hi2 : i < (mkTo TimerR k xs j).length := by rw [← hall.1]; exact hi
        exact TimerR.own_len (hall.2.2 i _ _ _ (List.getElem?_eq_getElem hi1) (List.getElem?_eq_getElem hi) (List.getElem?_eq_getElem hi2))
      have HX := Lib.hid hx
      have HJE := Lib.hid hje
      have HSE := Lib.hid hse
      have HCL := Lib.hid hcl
      have J0 := RowsJ.start hrw hlens hje
      have HAj := HA.out j Sj hse
      clear hx hje hse hcl hy hnx hsl
      obtain rfl := own_Timer hown
      obtain ⟨hSg, hgl, hat⟩ := J0.at_
      have hgS : S g := hS0 g hSg
      have hgw : g < w.heap.size := hS g hgS
      have hd0_ : wr.cell? ⟨g, off + j * 2, none⟩ = some (.int .i64 x.At) := (hat 0 _ rfl).1
      have he0_ : wr.frozen? ⟨g, off + j * 2, none⟩ = false := (hat 0 _ rfl).2
      have hd1_ : wr.cell? ⟨g, off + j * 2 + 1, none⟩ = some (.int .i64 x.Id) := (hat 1 _ rfl).1
      have he1_ : wr.frozen? ⟨g, off + j * 2 + 1, none⟩ = false := (hat 1 _ rfl).2
      clear hat
      have hOr : Out (fun z => z = g ∨ Sj z) wr wr := Out.refl _ _
      rw [show q + TimerR.cnt x = q + 1 + 1 from cnt1_Timer x q] at hqb
      go_wp2
      have J1 : RowsJ (wr.setCell ⟨g, off + j * 2, none⟩ (.int .i64 ((k : Int) + (q : Int)))) S0 62 2 (some ⟨g, off, none⟩) css j [.int .i64 ((k : Int) + (q : Int)), .int .i64 x.Id] := J0.set (i := 0) (by omega) (.int .i64 ((k : Int) + (q : Int)))
      replace hOr : Out (fun z => z = g ∨ Sj z) wr (wr.setCell ⟨g, off + j * 2, none⟩ (.int .i64 ((k : Int) + (q : Int)))) := hOr.setCell (p := ⟨g, off + j * 2, none⟩) (Or.inl rfl) _
      have J2 : RowsJ ((wr.setCell ⟨g, off + j * 2, none⟩ (.int .i64 ((k : Int) + (q : Int)))).setCell ⟨g, off + j * 2 + 1, none⟩ (.int .i64 ((k : Int) + (q : Int) + 1))) S0 62 2 (some ⟨g, off, none⟩) css j [.int .i64 ((k : Int) + (q : Int)), .int .i64 ((k : Int) + (q : Int) + 1)] := J1.set (i := 1) (by omega) (.int .i64 ((k : Int) + (q : Int) + 1))
      replace hOr : Out (fun z => z = g ∨ Sj z) wr ((wr.setCell ⟨g, off + j * 2, none⟩ (.int .i64 ((k : Int) + (q : Int)))).setCell ⟨g, off + j * 2 + 1, none⟩ (.int .i64 ((k : Int) + (q : Int) + 1))) := hOr.setCell (p := ⟨g, off + j * 2 + 1, none⟩) (Or.inl rfl) _
      have hcs : ([.int .i64 ((k : Int) + (q : Int)), .int .i64 ((k : Int) + (q : Int) + 1)] : List Value) = [.int .i64 ((k + q : Nat) : Int), .int .i64 ((k + q + 1 : Nat) : Int)] := by push_cast; rfl
      rw [hcs] at J2
      have hN : TimerR.Own ((wr.setCell ⟨g, off + j * 2, none⟩ (.int .i64 ((k : Int) + (q : Int)))).setCell ⟨g, off + j * 2 + 1, none⟩ (.int .i64 ((k : Int) + (q : Int) + 1))) Sj [.int .i64 ((k + q : Nat) : Int), .int .i64 ((k + q + 1 : Nat) : Int)] (TimerR.mark (k + q) x) := by rw [mark1_Timer]; exact of_own_Timer (x := ⟨(((k + q) : Nat) : Int), (((k + q) + 1 : Nat) : Int)⟩)
      go_roundw
      case rel =>
        refine ⟨j + 1, q + TimerR.cnt x, css.set j [.int .i64 ((k + q : Nat) : Int), .int .i64 ((k + q + 1 : Nat) : Int)], by omega, by go_num, ?_, Lib.hid (by rw [cntList_snoc TimerR HX.out, hq.out]), J2.rows, ?_, ho.trans (hOr.wide (fun z hz => by rcases hz with hz | hz; exact hz ▸ hgS; exact (HAj z hz).1))⟩
        · have h1 := cnt1_Timer x q
          have h2 : ((q + TimerR.cnt x : Nat) : Int) = ((q + 1 + 1 : Nat) : Int) := by rw [h1]
          push_cast at h2 ⊢
          first | (rw [h2]; simp only [Int.add_assoc]) | (congr 1; omega)
        · rw [mkTo_succ TimerR k HX.out, ← hq.out]
          refine hall.set HSE.out hOr (fun i s hij hi z hz hz' => ?_) hN
          rcases hz' with hz' | hz'
          · exact (HA.out i s hi z hz).2 (hz' ▸ hSg)
          · exact HP.out i j s Sj hij hi HSE.out z hz hz'
      case measure => simp [intOf]; omega
    · obtain rfl : j = n := by omega
      have hq2 := hq.out
      rw [List.take_of_length_le (by rw [Hn.out]; exact Nat.le_refl _), HN.out] at hq2
      subst hq2
      have hall2 : OwnAll TimerR wr Ss css (mkList TimerR k xs) := by rw [← mkTo_all, Hn.out]; exact hall
      go_wp2
      go_ret
      exact ⟨by first | rfl | (push_cast; rfl), HF.out _ _ hrw hall2, ho⟩
set_option maxHeartbeats 6400000 in
theorem held2_TimerS (v : Value) (xs : List Timer) (k : Nat) (w : World) (h : SlRd TimerR w w.heap.size v (mkList TimerR k xs)) (hm : szList TimerR xs ≤ 2097152) (h0 : 0 < k) (hk : k ≤ 100000000) :
    Calls Try.prog 42 #[v, .int .i64 k] w fun e w' => e = .returned (.int .i64 ((k + cntList TimerR xs : Nat) : Int)) ∧ Below w.heap.size w w' := by
  have hcb : cntList TimerR xs ≤ 35000000 := by have := cnt_bd_TimerS xs; omega
  obtain ⟨A, c, rfl⟩ := h.form
  have hlen : xs.length ≤ 2097152 := Nat.le_trans (Nat.le_add_right _ _) hm
  have HT : Hid (∀ j x, xs[j]? = some x → cntList TimerR (xs.take j) + TimerR.cnt x ≤ cntList TimerR xs) := Lib.hid (fun j x hx => by rw [← cntList_snoc TimerR hx]; exact sum_take_le _ _ _)
  have HSz : Hid (∀ j x, xs[j]? = some x → TimerR.sz x ≤ 2097152) := Lib.hid (fun j x hx => Nat.le_trans (szList_one hx) hm)
  have HM : Hid (∀ j x, xs[j]? = some x → (mkList TimerR k xs)[j]? = some (TimerR.mark (k + cntList TimerR (xs.take j)) x)) := Lib.hid (fun j x hx => mkList_get TimerR k xs j x hx)
  rw [mkList_len] at h ⊢
  generalize hn : xs.length = n at *
  have Hn := Lib.hid hn
  generalize hN : cntList TimerR xs = N at *
  have HN := Lib.hid hN
  clear hn hN hm
  go_enter Try.func42, Try.ntmps42
  go_wp2
  go_loopw [1, 5] (fun kk i wr => ∃ (j q : Nat), j ≤ n ∧ i = .int .i64 j ∧ kk = .int .i64 ((k : Int) + (q : Int)) ∧ Hid (q = cntList TimerR (xs.take j)) ∧ Below w.heap.size w wr) (fun _ i _ => n - (intOf i).toNat)
  case atStart => exact ⟨0, 0, Nat.zero_le _, rfl, by simp, rfl, Below.refl _ _⟩
  case round =>
    obtain ⟨j, q, hj, rfl, rfl, hq, hb⟩ := hrel
    have hzr := hb.size
    by_cases hlt : j < n
    · have hlx : j < xs.length := by rw [Hn.out]; exact hlt
      have hx := List.getElem?_eq_getElem hlx
      generalize xs[j]'hlx = x at hx
      have hqb := HT.out j x hx
      have hsz := HSz.out j x hx
      have hmx := HM.out j x hx
      rw [← hq.out] at hqb hmx
      have HX := Lib.hid hx
      clear hx
      obtain ⟨b, off, cs, rfl, hab, hrd, hcell⟩ := h.elem hmx
      rw [mark1_Timer] at hrd
      rw [show q + TimerR.cnt x = q + 1 + 1 from cnt1_Timer x q] at hqb
      clear hmx
      obtain rfl := rd_Timer hrd
      have C := Lib.hid (fun (w' : World) (hb' : Below w.heap.size w w') (i : Nat) (u : Value) (hu : [.int .i64 ((k : Int) + (q : Int)), .int .i64 ((k : Int) + (q : Int) + 1)][i]? = some u) => (hb'.cell (p := ⟨b, off + (j * 2 + i), none⟩) hab).trans (hcell i u (by push_cast; exact hu)))
      clear hcell
      have hd0_ : wr.cell? ⟨b, off + j * 2, none⟩ = some (.int .i64 ((k : Int) + (q : Int))) := C.out _ hb 0 _ rfl
      have hd1_ : wr.cell? ⟨b, off + j * 2 + 1, none⟩ = some (.int .i64 ((k : Int) + (q : Int) + 1)) := C.out _ hb 1 _ rfl
      go_wp2
      go_roundw
      case rel =>
        refine ⟨j + 1, q + TimerR.cnt x, by omega, by go_num, ?_, Lib.hid (by rw [cntList_snoc TimerR HX.out, hq.out]), by (repeat (first | (with_reducible exact Below.refl _ _) | (with_reducible assumption) | ((with_reducible refine Below.setCell ?_ ?_ _); rotate_left; focus (first | omega | (simp; done) | (simp; omega))) | ((with_reducible refine Below.alloc ?_ ?_ _); rotate_left; focus (first | omega | (simp; done) | (simp; omega))) | (with_reducible refine Below.drew ?_) | (with_reducible refine below_drewN ?_ _) | (refine Below.trans ?_ (Below.mono (by with_reducible assumption) (by (first | omega | (simp; done) | (simp; omega)))))))⟩
        have h1 := cnt1_Timer x q
        have h2 : ((q + TimerR.cnt x : Nat) : Int) = ((q + 1 + 1 : Nat) : Int) := by rw [h1]
        push_cast at h2 ⊢
        first | (rw [h2]; simp only [Int.add_assoc]) | (congr 1; omega)
      case measure => simp [intOf]; omega
    · obtain rfl : j = n := by omega
      have hq2 := hq.out
      rw [List.take_of_length_le (by rw [Hn.out]; exact Nat.le_refl _), HN.out] at hq2
      subst hq2
      go_wp2
      go_ret
      exact ⟨by first | rfl | (push_cast; rfl), hb⟩
end Go.Proofs.Ytfbgmpcknhjinaa

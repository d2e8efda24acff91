/- Contracts of the helpers on []Record (printed by wip/gen/gen2.py). -/
import Derived.Test.YtgaenfkjobkmjaaRows
import Derived.Test.YtgaenfkjobkmjaaBuilt
import Derived.Test.YtgaenfkjobkmjaaRecord2
set_option linter.unusedSimpArgs false
set_option linter.unusedVariables false
set_option maxRecDepth 20000
namespace Go.Proofs.Ytgaenfkjobkmjaa
open Go.RowKit
theorem info_Record : (Try.prog.info? 27).map (fun i => (i.zero, i.size, i.bytes)) = some (some (.agg #[.int .i64 0, .slice none 0 0, .slice none 0 0]), 3, 56) := by kernel_rfl
theorem cnt_bd_RecordS (xs : List Record) : cntList RecordR xs ≤ 16 * szList RecordR xs := by
  unfold cntList szList
  induction xs with
  | nil => simp
  | cons x xs ih =>
    rw [List.map_cons, List.sum_cons, List.map_cons, List.sum_cons, List.length_cons]
    have h1 : RecordR.cnt x ≤ 1 + 8 * RecordR.sz x := by
      rw [sz_Record]
      have h0 := cnt_bd_IntS x.Nums
      have h1 := cnt_bd_StringS x.Texts
      have hx : RecordR.cnt x = (1 + (cntList intR x.Nums + cntList strR x.Texts)) := rfl
      omega
    omega
set_option maxHeartbeats 1600000 in
theorem sz2_RecordS (v : Value) (xs : List Record) (left : Int) (w : World) (h : SlRd RecordR w w.heap.size v xs) (h1 : -1 ≤ left) (h2 : left ≤ 1048576) :
    Calls Try.prog 32 #[v, .int .i64 left] w fun e w' => e = .returned (.int .i64 (leftOf left (szList RecordR xs))) ∧ Below w.heap.size w w' := by
  obtain ⟨A, c, rfl⟩ := h.form
  obtain ⟨hc1, hc2⟩ := h.caps
  generalize hn : xs.length = n at *
  have Hn := Lib.hid hn
  have HZ : Hid (szList RecordR xs = n + (xs.map RecordR.sz).sum) := Lib.hid (by unfold szList; rw [hn])
  clear hn
  have HTot : Hid (∀ k, ((xs.take k).map RecordR.sz).sum ≤ (xs.map RecordR.sz).sum) := Lib.hid (sum_take_le _ _)
  generalize hs : (xs.map RecordR.sz).sum = s at *
  have HS := Lib.hid hs
  clear hs
  go_enter Try.func32, Try.ntmps32
  by_cases h0 : left - n < 0
  · go_wp2
    go_ret
    exact ⟨ret_int (by rw [HZ.out]; unfold leftOf; rw [if_pos (by omega)]), Below.refl _ _⟩
  · go_wp2
    go_loopw [1, 5] (fun l i wr => ∃ (k q : Nat), k ≤ n ∧ i = .int .i64 k ∧ l = .int .i64 (left - n - (q : Int)) ∧ 0 ≤ left - n - (q : Int) ∧ Hid (q = ((xs.take k).map RecordR.sz).sum) ∧ Below w.heap.size w wr) (fun _ i _ => n - (intOf i).toNat)
    case atStart => exact ⟨0, 0, Nat.zero_le _, rfl, by simp, by simp; omega, rfl, Below.refl _ _⟩
    case round =>
      obtain ⟨k, q, hk, rfl, rfl, hq0, hq, hb⟩ := hrel
      have hzr := hb.size
      by_cases hlt : k < n
      · have hlx : k < xs.length := by rw [Hn.out]; exact hlt
        have hx := List.getElem?_eq_getElem hlx
        generalize xs[k]'hlx = x at hx
        obtain ⟨b, off, cs, rfl, hab, hrd, hcell⟩ := (h.below hb (Nat.le_refl _)).elem hx
        have HE := Lib.hid (szList_elem RecordR hx)
        have HX := Lib.hid hx
        have HT2 := HTot.out (k + 1)
        rw [HE.out, ← hq.out] at HT2
        clear hx
        have hrd2 := RecordR.rd_more hrd hzr
        obtain ⟨_, _, rfl, q0, q1⟩ := rd_Record hrd
        obtain ⟨A0, c0, rfl⟩ := q0.form
        obtain ⟨A1, c1, rfl⟩ := q1.form
        have hc0_ : wr.cell? ⟨b, off + k * 3, none⟩ = some (.int .i64 x.Kind) := hcell 0 _ rfl
        have hc1_ : wr.cell? ⟨b, off + k * 3 + 1, none⟩ = some (.slice A0 x.Nums.length c0) := hcell 1 _ rfl
        have hc2_ : wr.cell? ⟨b, off + k * 3 + 2, none⟩ = some (.slice A1 x.Texts.length c1) := hcell 2 _ rfl
        clear hcell
        have HSz : Hid (RecordR.sz x = RecordR.sz x) := rfl
        go_wp2_with fail
        refine (sz2_Record _ x _ _ (RecordR.rd_keep hrd2 (by (repeat (first | (with_reducible exact Below.refl _ _) | (with_reducible assumption) | ((with_reducible refine Below.setCell ?_ ?_ _); rotate_left; focus (first | omega | (simp; done) | (simp; omega))) | ((with_reducible refine Below.alloc ?_ ?_ _); rotate_left; focus (first | omega | (simp; done) | (simp; omega))) | (with_reducible refine Below.drew ?_) | (with_reducible refine below_drewN ?_ _) | (refine Below.trans ?_ (Below.mono (by with_reducible assumption) (by (first | omega | (simp; done) | (simp; omega)))))))) (by first | omega | (simp; done) | (simp; omega))) (by omega) (by omega)).mono ?_
        rintro e w1 ⟨rfl, hb1⟩
        generalize hsx : RecordR.sz x = sx at *
        have HSX := Lib.hid hsx
        clear hsx hrd hrd2
        by_cases hneg : left - n - (q : Int) - (sx : Int) < 0
        · have hl : leftOf (left - n - (q : Int)) sx = -1 := by unfold leftOf; rw [if_pos (by omega)]
          simp only [hl]
          clear hl
          go_wp2
          go_ret
          exact ⟨ret_int (by rw [HZ.out]; unfold leftOf; rw [if_pos (by omega)]), by (repeat (first | (with_reducible exact Below.refl _ _) | (with_reducible assumption) | ((with_reducible refine Below.setCell ?_ ?_ _); rotate_left; focus (first | omega | (simp; done) | (simp; omega))) | ((with_reducible refine Below.alloc ?_ ?_ _); rotate_left; focus (first | omega | (simp; done) | (simp; omega))) | (with_reducible refine Below.drew ?_) | (with_reducible refine below_drewN ?_ _) | (refine Below.trans ?_ (Below.mono (by with_reducible assumption) (by (first | omega | (simp; done) | (simp; omega)))))))⟩
        · have hl : leftOf (left - n - (q : Int)) sx = left - n - (q : Int) - sx := by unfold leftOf; rw [if_neg (by omega)]
          simp only [hl]
          clear hl
          go_wp2
          go_roundw
          case rel => exact ⟨k + 1, q + sx, by omega, by go_num, by go_num, by omega, Lib.hid (by first | rw [HE.out, hq.out, HSX.out] | rw [HE.out, hq.out]), by (repeat (first | (with_reducible exact Below.refl _ _) | (with_reducible assumption) | ((with_reducible refine Below.setCell ?_ ?_ _); rotate_left; focus (first | omega | (simp; done) | (simp; omega))) | ((with_reducible refine Below.alloc ?_ ?_ _); rotate_left; focus (first | omega | (simp; done) | (simp; omega))) | (with_reducible refine Below.drew ?_) | (with_reducible refine below_drewN ?_ _) | (refine Below.trans ?_ (Below.mono (by with_reducible assumption) (by (first | omega | (simp; done) | (simp; omega)))))))⟩
          case measure => simp [intOf]; omega
      · obtain rfl : k = n := by omega
        have hq2 := hq.out
        rw [List.take_of_length_le (by rw [Hn.out]; exact Nat.le_refl _), HS.out] at hq2
        subst hq2
        go_wp2
        go_ret
        exact ⟨ret_int (by rw [HZ.out]; unfold leftOf; rw [if_neg (by omega)]; omega), by (repeat (first | (with_reducible exact Below.refl _ _) | (with_reducible assumption) | ((with_reducible refine Below.setCell ?_ ?_ _); rotate_left; focus (first | omega | (simp; done) | (simp; omega))) | ((with_reducible refine Below.alloc ?_ ?_ _); rotate_left; focus (first | omega | (simp; done) | (simp; omega))) | (with_reducible refine Below.drew ?_) | (with_reducible refine below_drewN ?_ _) | (refine Below.trans ?_ (Below.mono (by with_reducible assumption) (by (first | omega | (simp; done) | (simp; omega)))))))⟩
set_option maxHeartbeats 3200000 in
theorem to2_RecordS (v : Value) (xs : List Record) (w : World) (h : SlRd RecordR w w.heap.size v xs) (hm : szList RecordR xs ≤ 1048576) :
    Calls Try.prog 34 #[v] w fun e w' => ∃ v', e = .returned v' ∧ SlOwn RecordR 27 w' (InR w.heap.size w'.heap.size) v' xs ∧ Below w.heap.size w w' := by
  obtain ⟨i0, hi, hI0, hI1, hI2⟩ := info_parts info_Record
  obtain ⟨A, c, rfl⟩ := h.form
  have hlen : xs.length ≤ 1048576 := Nat.le_trans (Nat.le_add_right _ _) hm
  have HE : Hid (∀ k x, xs[k]? = some x → RecordR.sz x ≤ 1048576) := Lib.hid (fun k x hx => Nat.le_trans (szList_one hx) hm)
  generalize hn : xs.length = n at *
  have Hn := Lib.hid hn
  clear hn
  go_enter Try.func34, Try.ntmps34
  go_wp2_with (first | (at_make; refine wpList_make_full _ rfl _ _ 36 rfl w.heap.size 27 i0 _ 3 Try.underlying36 hi hI0 hI1 .i64 .i64 _ _ n rfl rfl (by omega) (by omega) (by rw [hI2]; omega) (by unfold maxLen; omega) (Nat.le_refl _) ?_; intro w1 hown hg))
  have hb0 : Below w.heap.size w w1 := (Below.refl _ _).grown hg (Nat.le_refl _) (by simp)
  obtain ⟨css0, z1, z2, z3⟩ := Rows.of_any hown (by omega)
  replace z3 := z3.wide (T := fun g => g = w.heap.size) (fun g hg => by simpa [Value.ownBlock] using hg.symm)
  have hlt0 := own_lt hown _ rfl
  clear hown hg
  go_loopw [4] (fun i wr => ∃ (k : Nat) (css : List (List Value)) (Ss : List (Nat → Prop)), k ≤ n ∧ i = .int .i64 k ∧ Rows wr (fun g => g = w.heap.size) 27 3 (some ⟨w.heap.size, 0, none⟩) css ∧ Hid (css.length = n) ∧ Hid (∀ cs ∈ css, cs.length = 3) ∧ Built RecordR wr (w.heap.size + 1) Ss (css.take k) (xs.take k) ∧ Below w.heap.size w wr ∧ w.heap.size < wr.heap.size) (fun i _ => n - (intOf i).toNat)
  case atStart => exact ⟨0, css0, [], Nat.zero_le _, rfl, z3, z1, z2, Built.nil _ _ _, hb0, hlt0⟩
  case round =>
    obtain ⟨k, css, Ss, hk, rfl, hrw, hcl, hcm, hbt, hb, hzr⟩ := hrel
    clear hb0 hlt0 z1 z2 z3
    by_cases hlt : k < n
    · have hlx : k < xs.length := by rw [Hn.out]; exact hlt
      have hx := List.getElem?_eq_getElem hlx
      generalize xs[k]'hlx = x at hx
      obtain ⟨b, off, cs, rfl, hab, hrd, hcell⟩ := (h.below hb (Nat.le_refl _)).elem hx
      have HX := Lib.hid hx
      have hsz := HE.out k x hx
      clear hx
      have hrd2 := RecordR.rd_more hrd (by omega : w.heap.size ≤ wr.heap.size)
      obtain ⟨_, _, rfl, q0, q1⟩ := rd_Record hrd
      obtain ⟨A0, c0, rfl⟩ := q0.form
      obtain ⟨A1, c1, rfl⟩ := q1.form
      have hc0_ : wr.cell? ⟨b, off + k * 3, none⟩ = some (.int .i64 x.Kind) := hcell 0 _ rfl
      have hc1_ : wr.cell? ⟨b, off + k * 3 + 1, none⟩ = some (.slice A0 x.Nums.length c0) := hcell 1 _ rfl
      have hc2_ : wr.cell? ⟨b, off + k * 3 + 2, none⟩ = some (.slice A1 x.Texts.length c1) := hcell 2 _ rfl
      clear hcell hrd
      go_wp2_with fail
      refine (to2_Record _ x _ (RecordR.rd_keep hrd2 (by (repeat (first | (with_reducible exact Below.refl _ _) | (with_reducible assumption) | ((with_reducible refine Below.setCell ?_ ?_ _); rotate_left; focus (first | omega | (simp; done) | (simp; omega))) | ((with_reducible refine Below.alloc ?_ ?_ _); rotate_left; focus (first | omega | (simp; done) | (simp; omega))) | (with_reducible refine Below.drew ?_) | (with_reducible refine below_drewN ?_ _) | (refine Below.trans ?_ (Below.mono (by with_reducible assumption) (by (first | omega | (simp; done) | (simp; omega)))))))) (by first | omega | (simp; done) | (simp; omega))) hsz).mono ?_
      rintro e w2 ⟨_, rfl, ho2, hb2⟩
      have ho2' := ho2
      obtain ⟨_, _, Sp0, Sp1, rfl, p0, p1, sp0, sp1, dsp⟩ := own_Record ho2
      obtain ⟨D0, d0, rfl⟩ := p0.form
      obtain ⟨D1, d1, rfl⟩ := p1.form
      have hkl : k < css.length := by rw [hcl.out]; exact hlt
      have hje := List.getElem?_eq_getElem hkl
      have hone := hcm.out _ (List.getElem_mem hkl)
      generalize css[k]'hkl = cs0 at hje hone
      obtain ⟨u0, u1, u2, rfl⟩ : ∃ u0 u1 u2, cs0 = [u0, u1, u2] := by
        match cs0, hone with
        | [u0, u1, u2], _ => exact ⟨u0, u1, u2, rfl⟩
      have J0 := RowsJ.start (hrw.keep hb2) hcm.out hje
      obtain ⟨_, hgl, hat⟩ := J0.at_
      have hz2 := hb2.size
      have hd0_ : w2.cell? ⟨w.heap.size, k * 3, none⟩ = some u0 := by have := (hat 0 _ rfl).1; simpa only [Nat.zero_add, Nat.add_zero] using this
      have he0_ : w2.frozen? ⟨w.heap.size, k * 3, none⟩ = false := by have := (hat 0 _ rfl).2; simpa only [Nat.zero_add, Nat.add_zero] using this
      have hd1_ : w2.cell? ⟨w.heap.size, k * 3 + 1, none⟩ = some u1 := by have := (hat 1 _ rfl).1; simpa only [Nat.zero_add, Nat.add_zero] using this
      have he1_ : w2.frozen? ⟨w.heap.size, k * 3 + 1, none⟩ = false := by have := (hat 1 _ rfl).2; simpa only [Nat.zero_add, Nat.add_zero] using this
      have hd2_ : w2.cell? ⟨w.heap.size, k * 3 + 2, none⟩ = some u2 := by have := (hat 2 _ rfl).1; simpa only [Nat.zero_add, Nat.add_zero] using this
      have he2_ : w2.frozen? ⟨w.heap.size, k * 3 + 2, none⟩ = false := by have := (hat 2 _ rfl).2; simpa only [Nat.zero_add, Nat.add_zero] using this
      clear hat hone
      have HJ := Lib.hid hje
      clear hje
      go_wp2
      go_roundw
      case rel =>
        have J1 := J0.set (i := 0) (by omega) (.int .i64 x.Kind)
        have J2 := J1.set (i := 1) (by omega) (.slice D0 x.Nums.length d0)
        have J3 := J2.set (i := 2) (by omega) (.slice D1 x.Texts.length d1)
        simp only [Nat.zero_add, Nat.add_zero, List.set_cons_zero, List.set_cons_succ] at J3
        have hpre : ∀ s ∈ Ss, ∀ g, s g → w.heap.size + 1 ≤ g ∧ g < wr.heap.size := hbt.inn
        have hbx : Below wr.heap.size wr w2 := by (repeat (first | (with_reducible exact Below.refl _ _) | (with_reducible assumption) | ((with_reducible refine Below.setCell ?_ ?_ _); rotate_left; focus (first | omega | (simp; done) | (simp; omega))) | ((with_reducible refine Below.alloc ?_ ?_ _); rotate_left; focus (first | omega | (simp; done) | (simp; omega))) | (with_reducible refine Below.drew ?_) | (with_reducible refine below_drewN ?_ _) | (refine Below.trans ?_ (Below.mono (by with_reducible assumption) (by (first | omega | (simp; done) | (simp; omega)))))))
        have B1 := hbt.keep hbx
        have B2 := B1.setC (a := ⟨w.heap.size, k * 3, none⟩) (fun s hs hg => by have := (hpre s hs _ hg).1; simp at this; omega) (.int .i64 x.Kind)
        have B3 := B2.setC (a := ⟨w.heap.size, k * 3 + 1, none⟩) (fun s hs hg => by have := (hpre s hs _ hg).1; simp at this; omega) (.slice D0 x.Nums.length d0)
        have B4 := B3.setC (a := ⟨w.heap.size, k * 3 + 2, none⟩) (fun s hs hg => by have := (hpre s hs _ hg).1; simp at this; omega) (.slice D1 x.Texts.length d1)
        have hOf : Out (Off wr.heap.size w2.heap.size) w2 (((w2.setCell ⟨w.heap.size, k * 3, none⟩ (.int .i64 x.Kind)).setCell ⟨w.heap.size, k * 3 + 1, none⟩ (.slice D0 x.Nums.length d0)).setCell ⟨w.heap.size, k * 3 + 2, none⟩ (.slice D1 x.Texts.length d1)) := by (repeat (first | (with_reducible exact Out.refl _ _) | (with_reducible assumption) | ((with_reducible refine Out.setCell ?_ ?_ _); rotate_left; focus (first | (refine Or.inl ?_; (first | omega | (simp; done) | (simp; omega))) | (refine Or.inr ?_; (first | omega | (simp; done) | (simp; omega))))) | (with_reducible refine Out.alloc ?_ _) | (with_reducible refine Out.drew ?_) | (with_reducible refine Out.drewN ?_ _) | (refine Out.step ?_ (by with_reducible assumption))))
        have hN := RecordR.own_off (RecordR.own_wide ho2' (inR_mono (lo' := wr.heap.size) (hi' := w2.heap.size) (by first | omega | (simp; done) | (simp; omega)) (by first | omega | (simp; done) | (simp; omega)))) hOf
        have B9 := B4.snoc hN (by omega) (by first | omega | (simp; done) | (simp; omega)) (fun s hs g hg => (hpre s hs g hg).2)
        refine ⟨k + 1, css.set k [.int .i64 x.Kind, .slice D0 x.Nums.length d0, .slice D1 x.Texts.length d1], Ss ++ [InR wr.heap.size w2.heap.size], by omega, by go_num, J3.rows, by rw [List.length_set]; exact hcl, Lib.hid J3.len'.2, ?_, by (repeat (first | (with_reducible exact Below.refl _ _) | (with_reducible assumption) | ((with_reducible refine Below.setCell ?_ ?_ _); rotate_left; focus (first | omega | (simp; done) | (simp; omega))) | ((with_reducible refine Below.alloc ?_ ?_ _); rotate_left; focus (first | omega | (simp; done) | (simp; omega))) | (with_reducible refine Below.drew ?_) | (with_reducible refine below_drewN ?_ _) | (refine Below.trans ?_ (Below.mono (by with_reducible assumption) (by (first | omega | (simp; done) | (simp; omega))))))), (by first | omega | (simp; done) | (simp; omega))⟩
        rw [take_snoc HX.out, List.take_succ_eq_append_getElem (by rw [List.length_set]; exact hkl), List.take_set_of_le (Nat.le_refl _), List.getElem_set_self]
        exact B9
      case measure => simp [intOf]; omega
    · obtain rfl : k = n := by omega
      have h1 : css.take k = css := List.take_of_length_le (by rw [hcl.out]; exact Nat.le_refl _)
      have h2 : xs.take k = xs := List.take_of_length_le (by rw [Hn.out]; exact Nat.le_refl _)
      rw [h1, h2] at hbt
      have H1 := Lib.hid h1
      have H2 := Lib.hid h2
      clear h1 h2
      go_wp2
      go_ret
      refine ⟨_, rfl, ?_, hb⟩
      have hf := hbt.own (S := InR w.heap.size wr.heap.size) (c := k) hrw (by rw [Hn.out]; exact Nat.le_refl _) (by omega) (fun g hg => by rw [hg]; exact ⟨Nat.le_refl _, hzr⟩) (fun s hs g hg => ⟨⟨by have := (hbt.inn s hs g hg).1; omega, (hbt.inn s hs g hg).2⟩, fun hg' => by have := (hbt.inn s hs g hg).1; omega⟩)
      rw [Hn.out] at hf
      exact hf
set_option maxHeartbeats 3200000 in
theorem eq2_RecordS (v v' : Value) (xs ys : List Record) (w : World) (h : SlRd RecordR w w.heap.size v xs) (h' : SlRd RecordR w w.heap.size v' ys) (hm : szList RecordR xs ≤ 140737488351232) (hm' : szList RecordR ys ≤ 140737488351232) :
    Calls Try.prog 27 #[v, v'] w fun e w' => e = .returned (.bool (decide (xs = ys))) ∧ Below w.heap.size w w' := by
  obtain ⟨A, c, rfl⟩ := h.form
  obtain ⟨A', c', rfl⟩ := h'.form
  obtain ⟨hc1, hc2⟩ := h.caps
  obtain ⟨hc1', hc2'⟩ := h'.caps
  have HE : Hid (∀ k x, xs[k]? = some x → RecordR.sz x ≤ 140737488351232) := Lib.hid (fun k x hx => Nat.le_trans (szList_one hx) hm)
  have HE' : Hid (∀ k x, ys[k]? = some x → RecordR.sz x ≤ 140737488351232) := Lib.hid (fun k x hx => Nat.le_trans (szList_one hx) hm')
  clear hm hm'
  generalize hn : xs.length = n at *
  have Hn := Lib.hid hn
  clear hn
  generalize hn' : ys.length = n' at *
  have Hn' := Lib.hid hn'
  clear hn'
  by_cases hl : n = n'
  · subst hl
    go_enter Try.func27, Try.ntmps27
    go_wp2
    go_loopw [5] (fun i wr => ∃ k : Nat, k ≤ n ∧ i = .int .i64 k ∧ Below w.heap.size w wr ∧ Hid (xs.take k = ys.take k)) (fun i _ => n - (intOf i).toNat)
    case atStart => exact ⟨0, Nat.zero_le _, rfl, Below.refl _ _, rfl⟩
    case round =>
      obtain ⟨k, hk, rfl, hb, he⟩ := hrel
      have hzr := hb.size
      by_cases hlt : k < n
      · have hlx : k < xs.length := by rw [Hn.out]; exact hlt
        have hly : k < ys.length := by rw [Hn'.out]; exact hlt
        have hx := List.getElem?_eq_getElem hlx
        have hy := List.getElem?_eq_getElem hly
        generalize xs[k]'hlx = x at hx
        generalize ys[k]'hly = y at hy
        obtain ⟨b, off, cs, rfl, hab, hrd, hcell⟩ := h.elem hx
        obtain ⟨b', off', cs', rfl, hab', hrd', hcell'⟩ := h'.elem hy
        have hsx := HE.out k x hx
        have hsy := HE'.out k y hy
        have HX := Lib.hid hx
        have HY := Lib.hid hy
        clear hx hy
        have hrd2 := hrd
        have hrd2' := hrd'
        obtain ⟨_, _, rfl, q0, q1⟩ := rd_Record hrd
        obtain ⟨A0, c0, rfl⟩ := q0.form
        obtain ⟨A1, c1, rfl⟩ := q1.form
        obtain ⟨_, _, rfl, p0, p1⟩ := rd_Record hrd'
        obtain ⟨D0, d0, rfl⟩ := p0.form
        obtain ⟨D1, d1, rfl⟩ := p1.form
        have C := Lib.hid (fun (w' : World) (hb' : Below w.heap.size w w') (i : Nat) (u : Value) (hu : [.int .i64 x.Kind, .slice A0 x.Nums.length c0, .slice A1 x.Texts.length c1][i]? = some u) => (hb'.cell (p := ⟨b, off + (k * 3 + i), none⟩) hab).trans (hcell i u hu))
        have C' := Lib.hid (fun (w' : World) (hb' : Below w.heap.size w w') (i : Nat) (u : Value) (hu : [.int .i64 y.Kind, .slice D0 y.Nums.length d0, .slice D1 y.Texts.length d1][i]? = some u) => (hb'.cell (p := ⟨b', off' + (k * 3 + i), none⟩) hab').trans (hcell' i u hu))
        clear hcell hcell' hrd hrd'
        go_wp2
        go_region_held3 (fun w' => w'.cell? ⟨b, off + k * 3, none⟩ = some (.int .i64 x.Kind) ∧ w'.cell? ⟨b, off + k * 3 + 1, none⟩ = some (.slice A0 x.Nums.length c0) ∧ w'.cell? ⟨b, off + k * 3 + 2, none⟩ = some (.slice A1 x.Texts.length c1) ∧ w'.cell? ⟨b', off' + k * 3, none⟩ = some (.int .i64 y.Kind) ∧ w'.cell? ⟨b', off' + k * 3 + 1, none⟩ = some (.slice D0 y.Nums.length d0) ∧ w'.cell? ⟨b', off' + k * 3 + 2, none⟩ = some (.slice D1 y.Texts.length d1))
          (first | exact ⟨C.out _ (by (repeat (first | (with_reducible exact Below.refl _ _) | (with_reducible assumption) | ((with_reducible refine Below.setCell ?_ ?_ _); rotate_left; focus (first | omega | (simp; done) | (simp; omega))) | ((with_reducible refine Below.alloc ?_ ?_ _); rotate_left; focus (first | omega | (simp; done) | (simp; omega))) | (with_reducible refine Below.drew ?_) | (with_reducible refine below_drewN ?_ _) | (refine Below.trans ?_ (Below.mono (by with_reducible assumption) (by (first | omega | (simp; done) | (simp; omega)))))))) 0 _ rfl, C.out _ (by (repeat (first | (with_reducible exact Below.refl _ _) | (with_reducible assumption) | ((with_reducible refine Below.setCell ?_ ?_ _); rotate_left; focus (first | omega | (simp; done) | (simp; omega))) | ((with_reducible refine Below.alloc ?_ ?_ _); rotate_left; focus (first | omega | (simp; done) | (simp; omega))) | (with_reducible refine Below.drew ?_) | (with_reducible refine below_drewN ?_ _) | (refine Below.trans ?_ (Below.mono (by with_reducible assumption) (by (first | omega | (simp; done) | (simp; omega)))))))) 1 _ rfl, C.out _ (by (repeat (first | (with_reducible exact Below.refl _ _) | (with_reducible assumption) | ((with_reducible refine Below.setCell ?_ ?_ _); rotate_left; focus (first | omega | (simp; done) | (simp; omega))) | ((with_reducible refine Below.alloc ?_ ?_ _); rotate_left; focus (first | omega | (simp; done) | (simp; omega))) | (with_reducible refine Below.drew ?_) | (with_reducible refine below_drewN ?_ _) | (refine Below.trans ?_ (Below.mono (by with_reducible assumption) (by (first | omega | (simp; done) | (simp; omega)))))))) 2 _ rfl, C'.out _ (by (repeat (first | (with_reducible exact Below.refl _ _) | (with_reducible assumption) | ((with_reducible refine Below.setCell ?_ ?_ _); rotate_left; focus (first | omega | (simp; done) | (simp; omega))) | ((with_reducible refine Below.alloc ?_ ?_ _); rotate_left; focus (first | omega | (simp; done) | (simp; omega))) | (with_reducible refine Below.drew ?_) | (with_reducible refine below_drewN ?_ _) | (refine Below.trans ?_ (Below.mono (by with_reducible assumption) (by (first | omega | (simp; done) | (simp; omega)))))))) 0 _ rfl, C'.out _ (by (repeat (first | (with_reducible exact Below.refl _ _) | (with_reducible assumption) | ((with_reducible refine Below.setCell ?_ ?_ _); rotate_left; focus (first | omega | (simp; done) | (simp; omega))) | ((with_reducible refine Below.alloc ?_ ?_ _); rotate_left; focus (first | omega | (simp; done) | (simp; omega))) | (with_reducible refine Below.drew ?_) | (with_reducible refine below_drewN ?_ _) | (refine Below.trans ?_ (Below.mono (by with_reducible assumption) (by (first | omega | (simp; done) | (simp; omega)))))))) 1 _ rfl, C'.out _ (by (repeat (first | (with_reducible exact Below.refl _ _) | (with_reducible assumption) | ((with_reducible refine Below.setCell ?_ ?_ _); rotate_left; focus (first | omega | (simp; done) | (simp; omega))) | ((with_reducible refine Below.alloc ?_ ?_ _); rotate_left; focus (first | omega | (simp; done) | (simp; omega))) | (with_reducible refine Below.drew ?_) | (with_reducible refine below_drewN ?_ _) | (refine Below.trans ?_ (Below.mono (by with_reducible assumption) (by (first | omega | (simp; done) | (simp; omega)))))))) 2 _ rfl⟩)
          (first | (go_at_call 67; refine (eq2_Record _ _ x y _ (RecordR.rd_keep hrd2 (by (repeat (first | (with_reducible exact Below.refl _ _) | (with_reducible assumption) | ((with_reducible refine Below.setCell ?_ ?_ _); rotate_left; focus (first | omega | (simp; done) | (simp; omega))) | ((with_reducible refine Below.alloc ?_ ?_ _); rotate_left; focus (first | omega | (simp; done) | (simp; omega))) | (with_reducible refine Below.drew ?_) | (with_reducible refine below_drewN ?_ _) | (refine Below.trans ?_ (Below.mono (by with_reducible assumption) (by (first | omega | (simp; done) | (simp; omega)))))))) (by first | omega | (simp; done) | (simp; omega))) (RecordR.rd_keep hrd2' (by (repeat (first | (with_reducible exact Below.refl _ _) | (with_reducible assumption) | ((with_reducible refine Below.setCell ?_ ?_ _); rotate_left; focus (first | omega | (simp; done) | (simp; omega))) | ((with_reducible refine Below.alloc ?_ ?_ _); rotate_left; focus (first | omega | (simp; done) | (simp; omega))) | (with_reducible refine Below.drew ?_) | (with_reducible refine below_drewN ?_ _) | (refine Below.trans ?_ (Below.mono (by with_reducible assumption) (by (first | omega | (simp; done) | (simp; omega)))))))) (by first | omega | (simp; done) | (simp; omega))) hsx hsy).mono ?_; rintro e w2 ⟨rfl, hb2⟩))
        go_wp2
        · have hst : (!decide (x = y)) = true := by assumption
          go_ret
          exact ⟨ret_bool (ne_of_at HX.out HY.out (by simpa using hst)).symm, by (repeat (first | (with_reducible exact Below.refl _ _) | (with_reducible assumption) | ((with_reducible refine Below.setCell ?_ ?_ _); rotate_left; focus (first | omega | (simp; done) | (simp; omega))) | ((with_reducible refine Below.alloc ?_ ?_ _); rotate_left; focus (first | omega | (simp; done) | (simp; omega))) | (with_reducible refine Below.drew ?_) | (with_reducible refine below_drewN ?_ _) | (refine Below.trans ?_ (Below.mono (by with_reducible assumption) (by (first | omega | (simp; done) | (simp; omega)))))))⟩
        · have hst : (!decide (x = y)) = false := by assumption
          go_roundw
          case rel => exact ⟨k + 1, by omega, by go_num, by (repeat (first | (with_reducible exact Below.refl _ _) | (with_reducible assumption) | ((with_reducible refine Below.setCell ?_ ?_ _); rotate_left; focus (first | omega | (simp; done) | (simp; omega))) | ((with_reducible refine Below.alloc ?_ ?_ _); rotate_left; focus (first | omega | (simp; done) | (simp; omega))) | (with_reducible refine Below.drew ?_) | (with_reducible refine below_drewN ?_ _) | (refine Below.trans ?_ (Below.mono (by with_reducible assumption) (by (first | omega | (simp; done) | (simp; omega))))))), take_step he.out HX.out HY.out (by simpa using hst)⟩
          case measure => simp [intOf]; omega
      · obtain rfl : k = n := by omega
        go_wp2
        go_ret
        exact ⟨ret_bool (by simp [eq_of_take he.out Hn.out Hn'.out]), by (repeat (first | (with_reducible exact Below.refl _ _) | (with_reducible assumption) | ((with_reducible refine Below.setCell ?_ ?_ _); rotate_left; focus (first | omega | (simp; done) | (simp; omega))) | ((with_reducible refine Below.alloc ?_ ?_ _); rotate_left; focus (first | omega | (simp; done) | (simp; omega))) | (with_reducible refine Below.drew ?_) | (with_reducible refine below_drewN ?_ _) | (refine Below.trans ?_ (Below.mono (by with_reducible assumption) (by (first | omega | (simp; done) | (simp; omega)))))))⟩
  · go_enter Try.func27, Try.ntmps27
    have hb : ((n : Int) != n') = true := by simp; omega
    go_wp2
    go_ret
    exact ⟨ret_bool (ne_of_len Hn.out Hn'.out hl).symm, Below.refl _ _⟩
theorem cnt1_Record (x : Record) (k : Nat) : k + RecordR.cnt x = k + 1 + cntList intR x.Nums + cntList strR x.Texts := by
  have hx : RecordR.cnt x = (1 + (cntList intR x.Nums + cntList strR x.Texts)) := rfl
  omega
theorem mark1_Record (x : Record) (k : Nat) : RecordR.mark k x = ⟨((k : Nat) : Int), mkList intR (k + 1) x.Nums, mkList strR (k + 1 + cntList intR x.Nums) x.Texts⟩ := rfl
set_option maxHeartbeats 6400000 in
theorem mark2_RecordS (v : Value) (xs : List Record) (S : Nat → Prop) (k : Nat) (w : World) (h : SlOwn RecordR 27 w S v xs) (hm : szList RecordR xs ≤ 2097152) (hS : ∀ g, S g → g < w.heap.size) (h0 : 0 < k) (hk : k ≤ 100000000) :
    Calls Try.prog 30 #[v, .int .i64 k] w fun e w' => e = .returned (.int .i64 ((k + cntList RecordR xs : Nat) : Int)) ∧ SlOwn RecordR 27 w' S v (mkList RecordR k xs) ∧ Out S w w' := by
  have hcb : cntList RecordR xs ≤ 35000000 := by have := cnt_bd_RecordS xs; omega
  obtain ⟨A, c, css0, S0, Ss, rfl, hc1, hc2, hrw, hall, hS0, hSs, hpw⟩ := h
  have HT : Hid (∀ j x, xs[j]? = some x → cntList RecordR (xs.take j) + RecordR.cnt x ≤ cntList RecordR xs) := Lib.hid (fun j x hx => by rw [← cntList_snoc RecordR hx]; exact sum_take_le _ _ _)
  have HSz : Hid (∀ j x, xs[j]? = some x → RecordR.sz x ≤ 2097152) := Lib.hid (fun j x hx => Nat.le_trans (szList_one hx) hm)
  have HF : Hid (∀ (w' : World) (css : List (List Value)), Rows w' S0 27 3 A css → OwnAll RecordR w' Ss css (mkList RecordR k xs) → SlOwn RecordR 27 w' S (.slice A xs.length c) (mkList RecordR k xs)) := Lib.hid (fun w' css a b => ⟨A, c, css, S0, Ss, by rw [mkList_len], by rw [mkList_len]; exact hc1, hc2, a, b, hS0, hSs, hpw⟩)
  have HP : Hid (∀ i j (s u : Nat → Prop), i ≠ j → Ss[i]? = some s → Ss[j]? = some u → ∀ g, s g → ¬ u g) := Lib.hid (fun i j s u hij hi hj => pairwise_get hpw (fun a b hab g hg hg' => hab g hg' hg) hij hi hj)
  have HA : Hid (∀ i (s : Nat → Prop), Ss[i]? = some s → ∀ g, s g → S g ∧ ¬ S0 g) := Lib.hid (fun i s hi => hSs s (List.mem_of_getElem? hi))
  have hall0 : OwnAll RecordR w Ss css0 (mkTo RecordR k xs 0) := by rw [mkTo_zero]; exact hall
  have HL : Hid (Ss.length = xs.length) := Lib.hid hall.2.1
  generalize hn : xs.length = n at *
  have Hn := Lib.hid hn
  generalize hN : cntList RecordR xs = N at *
  have HN := Lib.hid hN
  clear hn hN hm hall hpw hSs
  go_enter Try.func30, Try.ntmps30
  go_wp2
  go_loopw [1, 5] (fun kk i wr => ∃ (j q : Nat) (css : List (List Value)), j ≤ n ∧ i = .int .i64 j ∧ kk = .int .i64 ((k : Int) + (q : Int)) ∧ Hid (q = cntList RecordR (xs.take j)) ∧ Rows wr S0 27 3 A css ∧ OwnAll RecordR wr Ss css (mkTo RecordR k xs j) ∧ Out S w wr) (fun _ i _ => n - (intOf i).toNat)
  case atStart => exact ⟨0, 0, css0, Nat.zero_le _, rfl, by simp, rfl, hrw, hall0, Out.refl _ _⟩
  case round =>
    clear hrw hall0
    obtain ⟨j, q, css, hj, rfl, rfl, hq, hrw, hall, ho⟩ := hrel
    have hzr := ho.size
    by_cases hlt : j < n
    · have hlx : j < xs.length := by rw [Hn.out]; exact hlt
      have hx := List.getElem?_eq_getElem hlx
      generalize xs[j]'hlx = x at hx
      have hqb := HT.out j x hx
      have hsz := HSz.out j x hx
      rw [← hq.out] at hqb
      have hy := mkTo_get RecordR k hx
      have hcl : css.length = xs.length := by rw [hall.1, mkTo_len _ _ _ _ (Nat.le_of_lt hlx)]
      have hsl := HL.out
      have hnx := Hn.out
      have hje := List.getElem?_eq_getElem (l := css) (i := j) (by omega)
      have hse := List.getElem?_eq_getElem (l := Ss) (i := j) (by omega)
      generalize css[j]'(by omega) = cs at hje
      generalize Ss[j]'(by omega) = Sj at hse
      have hown := hall.2.2 j Sj cs x hse hje hy
      obtain ⟨g, off, rfl⟩ := hrw.addr (by omega)
      have hlens : ∀ cs ∈ css, cs.length = 3 := fun cs' hcs => by
        obtain ⟨i, hi, rfl⟩ := List.mem_iff_getElem.1 hcs
        have hi1 : i < Ss.length := by omega
        have hi2 : i < (mkTo RecordR k xs j).length := by rw [← hall.1]; exact hi
        exact RecordR.own_len (hall.2.2 i _ _ _ (List.getElem?_eq_getElem hi1) (List.getElem?_eq_getElem hi) (List.getElem?_eq_getElem hi2))
      have HX := Lib.hid hx
      have HJE := Lib.hid hje
      have HSE := Lib.hid hse
      have HCL := Lib.hid hcl
      have J0 := RowsJ.start hrw hlens hje
      have HAj := HA.out j Sj hse
      clear hx hje hse hcl hy hnx hsl
      obtain ⟨_, _, Sq0, Sq1, rfl, E0, E1, sq0, sq1, dq⟩ := own_Record hown
      obtain ⟨A0, c0, rfl⟩ := E0.form
      obtain ⟨A1, c1, rfl⟩ := E1.form
      rw [sz_Record] at hsz
      obtain ⟨hSg, hgl, hat⟩ := J0.at_
      have hgS : S g := hS0 g hSg
      have hgw : g < w.heap.size := hS g hgS
      have hd0_ : wr.cell? ⟨g, off + j * 3, none⟩ = some (.int .i64 x.Kind) := (hat 0 _ rfl).1
      have he0_ : wr.frozen? ⟨g, off + j * 3, none⟩ = false := (hat 0 _ rfl).2
      have hd1_ : wr.cell? ⟨g, off + j * 3 + 1, none⟩ = some (.slice A0 x.Nums.length c0) := (hat 1 _ rfl).1
      have he1_ : wr.frozen? ⟨g, off + j * 3 + 1, none⟩ = false := (hat 1 _ rfl).2
      have hd2_ : wr.cell? ⟨g, off + j * 3 + 2, none⟩ = some (.slice A1 x.Texts.length c1) := (hat 2 _ rfl).1
      have he2_ : wr.frozen? ⟨g, off + j * 3 + 2, none⟩ = false := (hat 2 _ rfl).2
      clear hat
      have hOr : Out (fun z => z = g ∨ Sj z) wr wr := Out.refl _ _
      have hcq0 := cnt_bd_IntS x.Nums
      have hcq1 := cnt_bd_StringS x.Texts
      rw [show q + RecordR.cnt x = q + 1 + cntList intR x.Nums + cntList strR x.Texts from cnt1_Record x q] at hqb
      go_wp2_with fail
      have J1 : RowsJ (wr.setCell ⟨g, off + j * 3, none⟩ (.int .i64 ((k : Int) + (q : Int)))) S0 27 3 (some ⟨g, off, none⟩) css j [.int .i64 ((k : Int) + (q : Int)), .slice A0 x.Nums.length c0, .slice A1 x.Texts.length c1] := J0.set (i := 0) (by omega) (.int .i64 ((k : Int) + (q : Int)))
      replace hOr : Out (fun z => z = g ∨ Sj z) wr (wr.setCell ⟨g, off + j * 3, none⟩ (.int .i64 ((k : Int) + (q : Int)))) := hOr.setCell (p := ⟨g, off + j * 3, none⟩) (Or.inl rfl) _
      replace E0 := E0.out (T := fun z => z = g) ((Out.refl (fun z => z = g) wr).setCell (p := ⟨g, off + j * 3, none⟩) rfl (.int .i64 ((k : Int) + (q : Int)))) (fun z hz hz' => (HAj z (sq0 z hz)).2 (hz' ▸ hSg))
      replace E1 := E1.out (T := fun z => z = g) ((Out.refl (fun z => z = g) wr).setCell (p := ⟨g, off + j * 3, none⟩) rfl (.int .i64 ((k : Int) + (q : Int)))) (fun z hz hz' => (HAj z (sq1 z hz)).2 (hz' ▸ hSg))
      refine (Calls.cast (by push_cast; rfl) (mark2_IntS _ _ _ (k + q + 1) _ E0 (Nat.le_trans (Nat.le_add_right _ _) (by omega : szList intR x.Nums ≤ 2097152)) (by omega))).mono ?_
      rintro e w1 ⟨rfl, F0, hO0⟩
      replace hOr := hOr.trans (hO0.wide (fun z hz => Or.inr (sq0 z hz)))
      have J2 := J1.out hO0 (fun z hz hz' => (HAj z (sq0 z hz')).2 hz)
      replace E0 := F0
      replace E1 := E1.out hO0 (fun z hz hz' => dq z hz' hz)
      obtain ⟨_, hgl1, hat⟩ := J2.at_
      have hd1_ : w1.cell? ⟨g, off + j * 3 + 1, none⟩ = some (.slice A0 x.Nums.length c0) := (hat 1 _ rfl).1
      have he1_ : w1.frozen? ⟨g, off + j * 3 + 1, none⟩ = false := (hat 1 _ rfl).2
      have hd2_ : w1.cell? ⟨g, off + j * 3 + 2, none⟩ = some (.slice A1 x.Texts.length c1) := (hat 2 _ rfl).1
      have he2_ : w1.frozen? ⟨g, off + j * 3 + 2, none⟩ = false := (hat 2 _ rfl).2
      clear hat
      go_wp2_with fail
      refine (Calls.cast (by push_cast; rfl) (mark2_StringS _ _ _ (k + q + 1 + cntList intR x.Nums) _ E1 (Nat.le_trans (Nat.le_add_right _ _) (by omega : szList strR x.Texts ≤ 2097152)) (fun z hz => by have h1 := hS z (HAj z (sq1 z hz)).1; have h2 := hOr.size; omega) (by omega) (by omega))).mono ?_
      rintro e w2 ⟨rfl, F1, hO1⟩
      replace hOr := hOr.trans (hO1.wide (fun z hz => Or.inr (sq1 z hz)))
      have J3 := J2.out hO1 (fun z hz hz' => (HAj z (sq1 z hz')).2 hz)
      replace E0 := E0.out hO1 dq
      replace E1 := F1
      obtain ⟨_, hgl2, hat⟩ := J3.at_
      have hd2_ : w2.cell? ⟨g, off + j * 3 + 2, none⟩ = some (.slice A1 x.Texts.length c1) := (hat 2 _ rfl).1
      have he2_ : w2.frozen? ⟨g, off + j * 3 + 2, none⟩ = false := (hat 2 _ rfl).2
      clear hat
      go_wp2
      have hcs : ([.int .i64 ((k : Int) + (q : Int)), .slice A0 x.Nums.length c0, .slice A1 x.Texts.length c1] : List Value) = [.int .i64 ((k + q : Nat) : Int), .slice A0 x.Nums.length c0, .slice A1 x.Texts.length c1] := by push_cast; rfl
      rw [hcs] at J3
      have hml0 : x.Nums.length = (mkList intR (k + q + 1) x.Nums).length := (mkList_len _ _ _).symm
      have hml1 : x.Texts.length = (mkList strR (k + q + 1 + cntList intR x.Nums) x.Texts).length := (mkList_len _ _ _).symm
      have hN : RecordR.Own w2 Sj [.int .i64 ((k + q : Nat) : Int), .slice A0 x.Nums.length c0, .slice A1 x.Texts.length c1] (RecordR.mark (k + q) x) := by
        rw [mark1_Record]
        have h1 := of_own_Record (S := Sj) (x := ⟨(((k + q) : Nat) : Int), mkList intR ((k + q) + 1) x.Nums, mkList strR ((k + q) + 1 + cntList intR x.Nums) x.Texts⟩) E0 E1 sq0 sq1 dq
        simp only [mkList_len] at h1
        exact h1
      go_roundw
      case rel =>
        refine ⟨j + 1, q + RecordR.cnt x, css.set j [.int .i64 ((k + q : Nat) : Int), .slice A0 x.Nums.length c0, .slice A1 x.Texts.length c1], by omega, by go_num, ?_, Lib.hid (by rw [cntList_snoc RecordR HX.out, hq.out]), J3.rows, ?_, ho.trans (hOr.wide (fun z hz => by rcases hz with hz | hz; exact hz ▸ hgS; exact (HAj z hz).1))⟩
        · have h1 := cnt1_Record x q
          have h2 : ((q + RecordR.cnt x : Nat) : Int) = ((q + 1 + cntList intR x.Nums + cntList strR x.Texts : Nat) : Int) := by rw [h1]
          push_cast at h2 ⊢
          first | (rw [h2]; simp only [Int.add_assoc]) | (congr 1; omega)
        · rw [mkTo_succ RecordR k HX.out, ← hq.out]
          refine hall.set HSE.out hOr (fun i s hij hi z hz hz' => ?_) hN
          rcases hz' with hz' | hz'
          · exact (HA.out i s hi z hz).2 (hz' ▸ hSg)
          · exact HP.out i j s Sj hij hi HSE.out z hz hz'
      case measure => simp [intOf]; omega
    · obtain rfl : j = n := by omega
      have hq2 := hq.out
      rw [List.take_of_length_le (by rw [Hn.out]; exact Nat.le_refl _), HN.out] at hq2
      subst hq2
      have hall2 : OwnAll RecordR wr Ss css (mkList RecordR k xs) := by rw [← mkTo_all, Hn.out]; exact hall
      go_wp2
      go_ret
      exact ⟨by first | rfl | (push_cast; rfl), HF.out _ _ hrw hall2, ho⟩
set_option maxHeartbeats 6400000 in
theorem held2_RecordS (v : Value) (xs : List Record) (k : Nat) (w : World) (h : SlRd RecordR w w.heap.size v (mkList RecordR k xs)) (hm : szList RecordR xs ≤ 2097152) (h0 : 0 < k) (hk : k ≤ 100000000) :
    Calls Try.prog 31 #[v, .int .i64 k] w fun e w' => e = .returned (.int .i64 ((k + cntList RecordR xs : Nat) : Int)) ∧ Below w.heap.size w w' := by
  have hcb : cntList RecordR xs ≤ 35000000 := by have := cnt_bd_RecordS xs; omega
  obtain ⟨A, c, rfl⟩ := h.form
  have hlen : xs.length ≤ 2097152 := Nat.le_trans (Nat.le_add_right _ _) hm
  have HT : Hid (∀ j x, xs[j]? = some x → cntList RecordR (xs.take j) + RecordR.cnt x ≤ cntList RecordR xs) := Lib.hid (fun j x hx => by rw [← cntList_snoc RecordR hx]; exact sum_take_le _ _ _)
  have HSz : Hid (∀ j x, xs[j]? = some x → RecordR.sz x ≤ 2097152) := Lib.hid (fun j x hx => Nat.le_trans (szList_one hx) hm)
  have HM : Hid (∀ j x, xs[j]? = some x → (mkList RecordR k xs)[j]? = some (RecordR.mark (k + cntList RecordR (xs.take j)) x)) := Lib.hid (fun j x hx => mkList_get RecordR k xs j x hx)
  rw [mkList_len] at h ⊢
  generalize hn : xs.length = n at *
  have Hn := Lib.hid hn
  generalize hN : cntList RecordR xs = N at *
  have HN := Lib.hid hN
  clear hn hN hm
  go_enter Try.func31, Try.ntmps31
  go_wp2
  go_loopw [1, 5] (fun kk i wr => ∃ (j q : Nat), j ≤ n ∧ i = .int .i64 j ∧ kk = .int .i64 ((k : Int) + (q : Int)) ∧ Hid (q = cntList RecordR (xs.take j)) ∧ Below w.heap.size w wr) (fun _ i _ => n - (intOf i).toNat)
  case atStart => exact ⟨0, 0, Nat.zero_le _, rfl, by simp, rfl, Below.refl _ _⟩
  case round =>
    obtain ⟨j, q, hj, rfl, rfl, hq, hb⟩ := hrel
    have hzr := hb.size
    by_cases hlt : j < n
    · have hlx : j < xs.length := by rw [Hn.out]; exact hlt
      have hx := List.getElem?_eq_getElem hlx
      generalize xs[j]'hlx = x at hx
      have hqb := HT.out j x hx
      have hsz := HSz.out j x hx
      have hmx := HM.out j x hx
      rw [← hq.out] at hqb hmx
      have HX := Lib.hid hx
      clear hx
      obtain ⟨b, off, cs, rfl, hab, hrd, hcell⟩ := h.elem hmx
      rw [mark1_Record] at hrd
      rw [show q + RecordR.cnt x = q + 1 + cntList intR x.Nums + cntList strR x.Texts from cnt1_Record x q] at hqb
      clear hmx
      obtain ⟨_, _, rfl, E0, E1⟩ := rd_Record hrd
      obtain ⟨A0, c0, rfl⟩ := E0.form
      have hcq0 := cnt_bd_IntS x.Nums
      obtain ⟨A1, c1, rfl⟩ := E1.form
      have hcq1 := cnt_bd_StringS x.Texts
      rw [sz_Record] at hsz
      have C := Lib.hid (fun (w' : World) (hb' : Below w.heap.size w w') (i : Nat) (u : Value) (hu : [.int .i64 ((k : Int) + (q : Int)), .slice A0 (mkList intR (k + q + 1) x.Nums).length c0, .slice A1 (mkList strR (k + q + 1 + cntList intR x.Nums) x.Texts).length c1][i]? = some u) => (hb'.cell (p := ⟨b, off + (j * 3 + i), none⟩) hab).trans (hcell i u (by push_cast; exact hu)))
      clear hcell
      have hd0_ : wr.cell? ⟨b, off + j * 3, none⟩ = some (.int .i64 ((k : Int) + (q : Int))) := C.out _ hb 0 _ rfl
      have hd1_ : wr.cell? ⟨b, off + j * 3 + 1, none⟩ = some (.slice A0 (mkList intR (k + q + 1) x.Nums).length c0) := C.out _ hb 1 _ rfl
      have hd2_ : wr.cell? ⟨b, off + j * 3 + 2, none⟩ = some (.slice A1 (mkList strR (k + q + 1 + cntList intR x.Nums) x.Texts).length c1) := C.out _ hb 2 _ rfl
      go_wp2_with fail
      refine (Calls.cast (by push_cast; rfl) (held2_IntS _ _ (k + q + 1) _ (E0.keep (by (repeat (first | (with_reducible exact Below.refl _ _) | (with_reducible assumption) | ((with_reducible refine Below.setCell ?_ ?_ _); rotate_left; focus (first | omega | (simp; done) | (simp; omega))) | ((with_reducible refine Below.alloc ?_ ?_ _); rotate_left; focus (first | omega | (simp; done) | (simp; omega))) | (with_reducible refine Below.drew ?_) | (with_reducible refine below_drewN ?_ _) | (refine Below.trans ?_ (Below.mono (by with_reducible assumption) (by (first | omega | (simp; done) | (simp; omega)))))))) (by first | omega | (simp; done) | (simp; omega))) (Nat.le_trans (Nat.le_add_right _ _) (by omega : szList intR x.Nums ≤ 2097152)) (by omega))).mono ?_
      rintro e w1 ⟨rfl, hb1⟩
      have hz1 := hb1.size; try simp at hz1
      have hbw1 : Below w.heap.size w w1 := by (repeat (first | (with_reducible exact Below.refl _ _) | (with_reducible assumption) | ((with_reducible refine Below.setCell ?_ ?_ _); rotate_left; focus (first | omega | (simp; done) | (simp; omega))) | ((with_reducible refine Below.alloc ?_ ?_ _); rotate_left; focus (first | omega | (simp; done) | (simp; omega))) | (with_reducible refine Below.drew ?_) | (with_reducible refine below_drewN ?_ _) | (refine Below.trans ?_ (Below.mono (by with_reducible assumption) (by (first | omega | (simp; done) | (simp; omega)))))))
      have hps1 : (0 : Int) ≤ ((k + q + 1 + cntList intR x.Nums : Nat) : Int) := by omega
      push_cast at hps1
      have hd2_ : w1.cell? ⟨b, off + j * 3 + 2, none⟩ = some (.slice A1 (mkList strR (k + q + 1 + cntList intR x.Nums) x.Texts).length c1) := C.out _ hbw1 2 _ rfl
      go_wp2_with fail
      refine (Calls.cast (by push_cast; rfl) (held2_StringS _ _ (k + q + 1 + cntList intR x.Nums) _ (E1.keep (by (repeat (first | (with_reducible exact Below.refl _ _) | (with_reducible assumption) | ((with_reducible refine Below.setCell ?_ ?_ _); rotate_left; focus (first | omega | (simp; done) | (simp; omega))) | ((with_reducible refine Below.alloc ?_ ?_ _); rotate_left; focus (first | omega | (simp; done) | (simp; omega))) | (with_reducible refine Below.drew ?_) | (with_reducible refine below_drewN ?_ _) | (refine Below.trans ?_ (Below.mono (by with_reducible assumption) (by (first | omega | (simp; done) | (simp; omega)))))))) (by first | omega | (simp; done) | (simp; omega))) (Nat.le_trans (Nat.le_add_right _ _) (by omega : szList strR x.Texts ≤ 2097152)) (by omega) (by omega))).mono ?_
      rintro e w2 ⟨rfl, hb2⟩
      have hz2 := hb2.size; try simp at hz2
      have hbw2 : Below w.heap.size w w2 := by (repeat (first | (with_reducible exact Below.refl _ _) | (with_reducible assumption) | ((with_reducible refine Below.setCell ?_ ?_ _); rotate_left; focus (first | omega | (simp; done) | (simp; omega))) | ((with_reducible refine Below.alloc ?_ ?_ _); rotate_left; focus (first | omega | (simp; done) | (simp; omega))) | (with_reducible refine Below.drew ?_) | (with_reducible refine below_drewN ?_ _) | (refine Below.trans ?_ (Below.mono (by with_reducible assumption) (by (first | omega | (simp; done) | (simp; omega)))))))
      have hps2 : (0 : Int) ≤ ((k + q + 1 + cntList intR x.Nums + cntList strR x.Texts : Nat) : Int) := by omega
      push_cast at hps2
      go_wp2
      go_roundw
      case rel =>
        refine ⟨j + 1, q + RecordR.cnt x, by omega, by go_num, ?_, Lib.hid (by rw [cntList_snoc RecordR HX.out, hq.out]), by (repeat (first | (with_reducible exact Below.refl _ _) | (with_reducible assumption) | ((with_reducible refine Below.setCell ?_ ?_ _); rotate_left; focus (first | omega | (simp; done) | (simp; omega))) | ((with_reducible refine Below.alloc ?_ ?_ _); rotate_left; focus (first | omega | (simp; done) | (simp; omega))) | (with_reducible refine Below.drew ?_) | (with_reducible refine below_drewN ?_ _) | (refine Below.trans ?_ (Below.mono (by with_reducible assumption) (by (first | omega | (simp; done) | (simp; omega)))))))⟩
        have h1 := cnt1_Record x q
        have h2 : ((q + RecordR.cnt x : Nat) : Int) = ((q + 1 + cntList intR x.Nums + cntList strR x.Texts : Nat) : Int) := by rw [h1]
        push_cast at h2 ⊢
        first | (rw [h2]; simp only [Int.add_assoc]) | (congr 1; omega)
      case measure => simp [intOf]; omega
    · obtain rfl : j = n := by omega
      have hq2 := hq.out
      rw [List.take_of_length_le (by rw [Hn.out]; exact Nat.le_refl _), HN.out] at hq2
      subst hq2
      go_wp2
      go_ret
      exact ⟨by first | rfl | (push_cast; rfl), hb⟩
end Go.Proofs.Ytgaenfkjobkmjaa

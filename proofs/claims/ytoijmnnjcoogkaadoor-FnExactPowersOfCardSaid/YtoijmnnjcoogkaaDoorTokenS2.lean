/- Contracts of the helpers on []Token (printed by wip/gen/gen2.py). -/
import Derived.Test.YtoijmnnjcoogkaaDoorRows
import Derived.Test.YtoijmnnjcoogkaaDoorBuilt
import Derived.Test.YtoijmnnjcoogkaaDoorToken2
set_option linter.unusedSimpArgs false
set_option linter.unusedVariables false
set_option maxRecDepth 20000
namespace Go.Proofs.YtoijmnnjcoogkaaDoor
open Go.RowKit
theorem info_Token : (Tryd.prog.info? 48).map (fun i => (i.zero, i.size, i.bytes)) = some (some (.agg #[.int .i64 0, .int .i64 0, .slice none 0 0, .int .i64 0, .int .i64 0, .int .i64 0, .int .i64 0]), 7, 72) := by kernel_rfl
theorem cnt_bd_TokenS (xs : List Token) : cntList TokenR xs ≤ 16 * szList TokenR xs := by
  unfold cntList szList
  induction xs with
  | nil => simp
  | cons x xs ih =>
    rw [List.map_cons, List.sum_cons, List.map_cons, List.sum_cons, List.length_cons]
    have h1 : TokenR.cnt x ≤ 6 + 8 * TokenR.sz x := by
      rw [sz_Token]
      have h0 := cnt_bd_StringS x.Names
      simp only [TokenR, Rep.as, Rep.pair, Rep.sl, intR, Rep.flat]
      omega
    omega
set_option maxHeartbeats 1600000 in
theorem sz2_TokenS (v : Value) (xs : List Token) (left : Int) (w : World) (h : SlRd TokenR w w.heap.size v xs) (h1 : -1 ≤ left) (h2 : left ≤ 1048576) :
    Calls Tryd.prog 15 #[v, .int .i64 left] w fun e w' => e = .returned (.int .i64 (leftOf left (szList TokenR xs))) ∧ Below w.heap.size w w' := by
  obtain ⟨A, c, rfl⟩ := h.form
  obtain ⟨hc1, hc2⟩ := h.caps
  generalize hn : xs.length = n at *
  have Hn := Lib.hid hn
  have HZ : Hid (szList TokenR xs = n + (xs.map TokenR.sz).sum) := Lib.hid (by unfold szList; rw [hn])
  clear hn
  have HTot : Hid (∀ k, ((xs.take k).map TokenR.sz).sum ≤ (xs.map TokenR.sz).sum) := Lib.hid (sum_take_le _ _)
  generalize hs : (xs.map TokenR.sz).sum = s at *
  have HS := Lib.hid hs
  clear hs
  go_enter Tryd.func15, Tryd.ntmps15
  by_cases h0 : left - n < 0
  · go_wp2
    go_ret
    exact ⟨ret_int (by rw [HZ.out]; unfold leftOf; rw [if_pos (by omega)]), Below.refl _ _⟩
  · go_wp2
    go_loopw [1, 5] (fun l i wr => ∃ (k q : Nat), k ≤ n ∧ i = .int .i64 k ∧ l = .int .i64 (left - n - (q : Int)) ∧ 0 ≤ left - n - (q : Int) ∧ Hid (q = ((xs.take k).map TokenR.sz).sum) ∧ Below w.heap.size w wr) (fun _ i _ => n - (intOf i).toNat)
    case atStart => exact ⟨0, 0, Nat.zero_le _, rfl, by simp, by simp; omega, rfl, Below.refl _ _⟩
    case round =>
      obtain ⟨k, q, hk, rfl, rfl, hq0, hq, hb⟩ := hrel
      have hzr := hb.size
      by_cases hlt : k < n
      · have hlx : k < xs.length := by rw [Hn.out]; exact hlt
        have hx := List.getElem?_eq_getElem hlx
        generalize xs[k]'hlx = x at hx
        obtain ⟨b, off, cs, rfl, hab, hrd, hcell⟩ := (h.below hb (Nat.le_refl _)).elem hx
        have HE := Lib.hid (szList_elem TokenR hx)
        have HX := Lib.hid hx
        have HT2 := HTot.out (k + 1)
        rw [HE.out, ← hq.out] at HT2
        clear hx
        have hrd2 := TokenR.rd_more hrd hzr
        obtain ⟨_, rfl, q0⟩ := rd_Token hrd
        obtain ⟨A0, c0, rfl⟩ := q0.form
        have hc0_ : wr.cell? ⟨b, off + k * 7, none⟩ = some (.int .i64 x.Id) := hcell 0 _ rfl
        have hc1_ : wr.cell? ⟨b, off + k * 7 + 1, none⟩ = some (.int .i64 x.Parent) := hcell 1 _ rfl
        have hc2_ : wr.cell? ⟨b, off + k * 7 + 2, none⟩ = some (.slice A0 x.Names.length c0) := hcell 2 _ rfl
        have hc3_ : wr.cell? ⟨b, off + k * 7 + 3, none⟩ = some (.int .i64 x.Made) := hcell 3 _ rfl
        have hc4_ : wr.cell? ⟨b, off + k * 7 + 4, none⟩ = some (.int .i64 x.Ends) := hcell 4 _ rfl
        have hc5_ : wr.cell? ⟨b, off + k * 7 + 5, none⟩ = some (.int .i64 x.Limit) := hcell 5 _ rfl
        have hc6_ : wr.cell? ⟨b, off + k * 7 + 6, none⟩ = some (.int .i64 x.Uses) := hcell 6 _ rfl
        clear hcell
        have HSz : Hid (TokenR.sz x = TokenR.sz x) := rfl
        go_wp2_with fail
        refine (sz2_Token _ x _ _ (TokenR.rd_keep hrd2 (by (repeat (first | (with_reducible exact Below.refl _ _) | (with_reducible assumption) | ((with_reducible refine Below.setCell ?_ ?_ _); rotate_left; focus (first | omega | (simp; done) | (simp; omega))) | ((with_reducible refine Below.alloc ?_ ?_ _); rotate_left; focus (first | omega | (simp; done) | (simp; omega))) | (with_reducible refine Below.drew ?_) | (with_reducible refine below_drewN ?_ _) | (refine Below.trans ?_ (Below.mono (by with_reducible assumption) (by (first | omega | (simp; done) | (simp; omega)))))))) (by first | omega | (simp; done) | (simp; omega))) (by omega) (by omega)).mono ?_
        rintro e w1 ⟨rfl, hb1⟩
        generalize hsx : TokenR.sz x = sx at *
        have HSX := Lib.hid hsx
        clear hsx hrd hrd2
        by_cases hneg : left - n - (q : Int) - (sx : Int) < 0
        · have hl : leftOf (left - n - (q : Int)) sx = -1 := by unfold leftOf; rw [if_pos (by omega)]
          simp only [hl]
          clear hl
          go_wp2
          go_ret
          exact ⟨ret_int (by rw [HZ.out]; unfold leftOf; rw [if_pos (by omega)]), by (repeat (first | (with_reducible exact Below.refl _ _) | (with_reducible assumption) | ((with_reducible refine Below.setCell ?_ ?_ _); rotate_left; focus (first | omega | (simp; done) | (simp; omega))) | ((with_reducible refine Below.alloc ?_ ?_ _); rotate_left; focus (first | omega | (simp; done) | (simp; omega))) | (with_reducible refine Below.drew ?_) | (with_reducible refine below_drewN ?_ _) | (refine Below.trans ?_ (Below.mono (by with_reducible assumption) (by (first | omega | (simp; done) | (simp; omega)))))))⟩
        · have hl : leftOf (left - n - (q : Int)) sx = left - n - (q : Int) - sx := by unfold leftOf; rw [if_neg (by omega)]
          simp only [hl]
          clear hl
          go_wp2
          go_roundw
          case rel => exact ⟨k + 1, q + sx, by omega, by go_num, by go_num, by omega, Lib.hid (by first | rw [HE.out, hq.out, HSX.out] | rw [HE.out, hq.out]), by (repeat (first | (with_reducible exact Below.refl _ _) | (with_reducible assumption) | ((with_reducible refine Below.setCell ?_ ?_ _); rotate_left; focus (first | omega | (simp; done) | (simp; omega))) | ((with_reducible refine Below.alloc ?_ ?_ _); rotate_left; focus (first | omega | (simp; done) | (simp; omega))) | (with_reducible refine Below.drew ?_) | (with_reducible refine below_drewN ?_ _) | (refine Below.trans ?_ (Below.mono (by with_reducible assumption) (by (first | omega | (simp; done) | (simp; omega)))))))⟩
          case measure => simp [intOf]; omega
      · obtain rfl : k = n := by omega
        have hq2 := hq.out
        rw [List.take_of_length_le (by rw [Hn.out]; exact Nat.le_refl _), HS.out] at hq2
        subst hq2
        go_wp2
        go_ret
        exact ⟨ret_int (by rw [HZ.out]; unfold leftOf; rw [if_neg (by omega)]; omega), by (repeat (first | (with_reducible exact Below.refl _ _) | (with_reducible assumption) | ((with_reducible refine Below.setCell ?_ ?_ _); rotate_left; focus (first | omega | (simp; done) | (simp; omega))) | ((with_reducible refine Below.alloc ?_ ?_ _); rotate_left; focus (first | omega | (simp; done) | (simp; omega))) | (with_reducible refine Below.drew ?_) | (with_reducible refine below_drewN ?_ _) | (refine Below.trans ?_ (Below.mono (by with_reducible assumption) (by (first | omega | (simp; done) | (simp; omega)))))))⟩
set_option maxHeartbeats 3200000 in
theorem to2_TokenS (v : Value) (xs : List Token) (w : World) (h : SlRd TokenR w w.heap.size v xs) (hm : szList TokenR xs ≤ 1048576) :
    Calls Tryd.prog 21 #[v] w fun e w' => ∃ v', e = .returned v' ∧ SlOwn TokenR 48 w' (InR w.heap.size w'.heap.size) v' xs ∧ Below w.heap.size w w' := by
  obtain ⟨i0, hi, hI0, hI1, hI2⟩ := info_parts info_Token
  obtain ⟨A, c, rfl⟩ := h.form
  have hlen : xs.length ≤ 1048576 := Nat.le_trans (Nat.le_add_right _ _) hm
  have HE : Hid (∀ k x, xs[k]? = some x → TokenR.sz x ≤ 1048576) := Lib.hid (fun k x hx => Nat.le_trans (szList_one hx) hm)
  generalize hn : xs.length = n at *
  have Hn := Lib.hid hn
  clear hn
  go_enter Tryd.func21, Tryd.ntmps21
  go_wp2_with (first | (at_make; refine wpList_make_full _ rfl _ _ 31 rfl w.heap.size 48 i0 _ 7 Tryd.underlying31 hi hI0 hI1 .i64 .i64 _ _ n rfl rfl (by omega) (by omega) (by rw [hI2]; omega) (by unfold maxLen; omega) (Nat.le_refl _) ?_; intro w1 hown hg))
  have hb0 : Below w.heap.size w w1 := (Below.refl _ _).grown hg (Nat.le_refl _) (by simp)
  obtain ⟨css0, z1, z2, z3⟩ := Rows.of_any hown (by omega)
  replace z3 := z3.wide (T := fun g => g = w.heap.size) (fun g hg => by simpa [Value.ownBlock] using hg.symm)
  have hlt0 := own_lt hown _ rfl
  clear hown hg
  go_loopw [4] (fun i wr => ∃ (k : Nat) (css : List (List Value)) (Ss : List (Nat → Prop)), k ≤ n ∧ i = .int .i64 k ∧ Rows wr (fun g => g = w.heap.size) 48 7 (some ⟨w.heap.size, 0, none⟩) css ∧ Hid (css.length = n) ∧ Hid (∀ cs ∈ css, cs.length = 7) ∧ Built TokenR wr (w.heap.size + 1) Ss (css.take k) (xs.take k) ∧ Below w.heap.size w wr ∧ w.heap.size < wr.heap.size) (fun i _ => n - (intOf i).toNat)
  case atStart => exact ⟨0, css0, [], Nat.zero_le _, rfl, z3, z1, z2, Built.nil _ _ _, hb0, hlt0⟩
  case round =>
    obtain ⟨k, css, Ss, hk, rfl, hrw, hcl, hcm, hbt, hb, hzr⟩ := hrel
    clear hb0 hlt0 z1 z2 z3
    by_cases hlt : k < n
    · have hlx : k < xs.length := by rw [Hn.out]; exact hlt
      have hx := List.getElem?_eq_getElem hlx
      generalize xs[k]'hlx = x at hx
      obtain ⟨b, off, cs, rfl, hab, hrd, hcell⟩ := (h.below hb (Nat.le_refl _)).elem hx
      have HX := Lib.hid hx
      have hsz := HE.out k x hx
      clear hx
      have hrd2 := TokenR.rd_more hrd (by omega : w.heap.size ≤ wr.heap.size)
      obtain ⟨_, rfl, q0⟩ := rd_Token hrd
      obtain ⟨A0, c0, rfl⟩ := q0.form
      have hc0_ : wr.cell? ⟨b, off + k * 7, none⟩ = some (.int .i64 x.Id) := hcell 0 _ rfl
      have hc1_ : wr.cell? ⟨b, off + k * 7 + 1, none⟩ = some (.int .i64 x.Parent) := hcell 1 _ rfl
      have hc2_ : wr.cell? ⟨b, off + k * 7 + 2, none⟩ = some (.slice A0 x.Names.length c0) := hcell 2 _ rfl
      have hc3_ : wr.cell? ⟨b, off + k * 7 + 3, none⟩ = some (.int .i64 x.Made) := hcell 3 _ rfl
      have hc4_ : wr.cell? ⟨b, off + k * 7 + 4, none⟩ = some (.int .i64 x.Ends) := hcell 4 _ rfl
      have hc5_ : wr.cell? ⟨b, off + k * 7 + 5, none⟩ = some (.int .i64 x.Limit) := hcell 5 _ rfl
      have hc6_ : wr.cell? ⟨b, off + k * 7 + 6, none⟩ = some (.int .i64 x.Uses) := hcell 6 _ rfl
      clear hcell hrd
      go_wp2_with fail
      refine (to2_Token _ x _ (TokenR.rd_keep hrd2 (by (repeat (first | (with_reducible exact Below.refl _ _) | (with_reducible assumption) | ((with_reducible refine Below.setCell ?_ ?_ _); rotate_left; focus (first | omega | (simp; done) | (simp; omega))) | ((with_reducible refine Below.alloc ?_ ?_ _); rotate_left; focus (first | omega | (simp; done) | (simp; omega))) | (with_reducible refine Below.drew ?_) | (with_reducible refine below_drewN ?_ _) | (refine Below.trans ?_ (Below.mono (by with_reducible assumption) (by (first | omega | (simp; done) | (simp; omega)))))))) (by first | omega | (simp; done) | (simp; omega))) hsz).mono ?_
      rintro e w2 ⟨_, rfl, ho2, hb2⟩
      have ho2' := ho2
      obtain ⟨_, Sp0, rfl, p0, sp0⟩ := own_Token ho2
      obtain ⟨D0, d0, rfl⟩ := p0.form
      have hkl : k < css.length := by rw [hcl.out]; exact hlt
      have hje := List.getElem?_eq_getElem hkl
      have hone := hcm.out _ (List.getElem_mem hkl)
      generalize css[k]'hkl = cs0 at hje hone
      obtain ⟨u0, u1, u2, u3, u4, u5, u6, rfl⟩ : ∃ u0 u1 u2 u3 u4 u5 u6, cs0 = [u0, u1, u2, u3, u4, u5, u6] := by
        match cs0, hone with
        | [u0, u1, u2, u3, u4, u5, u6], _ => exact ⟨u0, u1, u2, u3, u4, u5, u6, rfl⟩
      have J0 := RowsJ.start (hrw.keep hb2) hcm.out hje
      obtain ⟨_, hgl, hat⟩ := J0.at_
      have hz2 := hb2.size
      have hd0_ : w2.cell? ⟨w.heap.size, k * 7, none⟩ = some u0 := by have := (hat 0 _ rfl).1; simpa only [Nat.zero_add, Nat.add_zero] using this
      have he0_ : w2.frozen? ⟨w.heap.size, k * 7, none⟩ = false := by have := (hat 0 _ rfl).2; simpa only [Nat.zero_add, Nat.add_zero] using this
      have hd1_ : w2.cell? ⟨w.heap.size, k * 7 + 1, none⟩ = some u1 := by have := (hat 1 _ rfl).1; simpa only [Nat.zero_add, Nat.add_zero] using this
      have he1_ : w2.frozen? ⟨w.heap.size, k * 7 + 1, none⟩ = false := by have := (hat 1 _ rfl).2; simpa only [Nat.zero_add, Nat.add_zero] using this
      have hd2_ : w2.cell? ⟨w.heap.size, k * 7 + 2, none⟩ = some u2 := by have := (hat 2 _ rfl).1; simpa only [Nat.zero_add, Nat.add_zero] using this
      have he2_ : w2.frozen? ⟨w.heap.size, k * 7 + 2, none⟩ = false := by have := (hat 2 _ rfl).2; simpa only [Nat.zero_add, Nat.add_zero] using this
      have hd3_ : w2.cell? ⟨w.heap.size, k * 7 + 3, none⟩ = some u3 := by have := (hat 3 _ rfl).1; simpa only [Nat.zero_add, Nat.add_zero] using this
      have he3_ : w2.frozen? ⟨w.heap.size, k * 7 + 3, none⟩ = false := by have := (hat 3 _ rfl).2; simpa only [Nat.zero_add, Nat.add_zero] using this
      have hd4_ : w2.cell? ⟨w.heap.size, k * 7 + 4, none⟩ = some u4 := by have := (hat 4 _ rfl).1; simpa only [Nat.zero_add, Nat.add_zero] using this
      have he4_ : w2.frozen? ⟨w.heap.size, k * 7 + 4, none⟩ = false := by have := (hat 4 _ rfl).2; simpa only [Nat.zero_add, Nat.add_zero] using this
      have hd5_ : w2.cell? ⟨w.heap.size, k * 7 + 5, none⟩ = some u5 := by have := (hat 5 _ rfl).1; simpa only [Nat.zero_add, Nat.add_zero] using this
      have he5_ : w2.frozen? ⟨w.heap.size, k * 7 + 5, none⟩ = false := by have := (hat 5 _ rfl).2; simpa only [Nat.zero_add, Nat.add_zero] using this
      have hd6_ : w2.cell? ⟨w.heap.size, k * 7 + 6, none⟩ = some u6 := by have := (hat 6 _ rfl).1; simpa only [Nat.zero_add, Nat.add_zero] using this
      have he6_ : w2.frozen? ⟨w.heap.size, k * 7 + 6, none⟩ = false := by have := (hat 6 _ rfl).2; simpa only [Nat.zero_add, Nat.add_zero] using this
      clear hat hone
      have HJ := Lib.hid hje
      clear hje
      go_wp2
      go_roundw
      case rel =>
        have J1 := J0.set (i := 0) (by omega) (.int .i64 x.Id)
        have J2 := J1.set (i := 1) (by omega) (.int .i64 x.Parent)
        have J3 := J2.set (i := 2) (by omega) (.slice D0 x.Names.length d0)
        have J4 := J3.set (i := 3) (by omega) (.int .i64 x.Made)
        have J5 := J4.set (i := 4) (by omega) (.int .i64 x.Ends)
        have J6 := J5.set (i := 5) (by omega) (.int .i64 x.Limit)
        have J7 := J6.set (i := 6) (by omega) (.int .i64 x.Uses)
        simp only [Nat.zero_add, Nat.add_zero, List.set_cons_zero, List.set_cons_succ] at J7
        have hpre : ∀ s ∈ Ss, ∀ g, s g → w.heap.size + 1 ≤ g ∧ g < wr.heap.size := hbt.inn
        have hbx : Below wr.heap.size wr w2 := by (repeat (first | (with_reducible exact Below.refl _ _) | (with_reducible assumption) | ((with_reducible refine Below.setCell ?_ ?_ _); rotate_left; focus (first | omega | (simp; done) | (simp; omega))) | ((with_reducible refine Below.alloc ?_ ?_ _); rotate_left; focus (first | omega | (simp; done) | (simp; omega))) | (with_reducible refine Below.drew ?_) | (with_reducible refine below_drewN ?_ _) | (refine Below.trans ?_ (Below.mono (by with_reducible assumption) (by (first | omega | (simp; done) | (simp; omega)))))))
        have B1 := hbt.keep hbx
        have B2 := B1.setC (a := ⟨w.heap.size, k * 7, none⟩) (fun s hs hg => by have := (hpre s hs _ hg).1; simp at this; omega) (.int .i64 x.Id)
        have B3 := B2.setC (a := ⟨w.heap.size, k * 7 + 1, none⟩) (fun s hs hg => by have := (hpre s hs _ hg).1; simp at this; omega) (.int .i64 x.Parent)
        have B4 := B3.setC (a := ⟨w.heap.size, k * 7 + 2, none⟩) (fun s hs hg => by have := (hpre s hs _ hg).1; simp at this; omega) (.slice D0 x.Names.length d0)
        have B5 := B4.setC (a := ⟨w.heap.size, k * 7 + 3, none⟩) (fun s hs hg => by have := (hpre s hs _ hg).1; simp at this; omega) (.int .i64 x.Made)
        have B6 := B5.setC (a := ⟨w.heap.size, k * 7 + 4, none⟩) (fun s hs hg => by have := (hpre s hs _ hg).1; simp at this; omega) (.int .i64 x.Ends)
        have B7 := B6.setC (a := ⟨w.heap.size, k * 7 + 5, none⟩) (fun s hs hg => by have := (hpre s hs _ hg).1; simp at this; omega) (.int .i64 x.Limit)
        have B8 := B7.setC (a := ⟨w.heap.size, k * 7 + 6, none⟩) (fun s hs hg => by have := (hpre s hs _ hg).1; simp at this; omega) (.int .i64 x.Uses)
        have hOf : Out (Off wr.heap.size w2.heap.size) w2 (((((((w2.setCell ⟨w.heap.size, k * 7, none⟩ (.int .i64 x.Id)).setCell ⟨w.heap.size, k * 7 + 1, none⟩ (.int .i64 x.Parent)).setCell ⟨w.heap.size, k * 7 + 2, none⟩ (.slice D0 x.Names.length d0)).setCell ⟨w.heap.size, k * 7 + 3, none⟩ (.int .i64 x.Made)).setCell ⟨w.heap.size, k * 7 + 4, none⟩ (.int .i64 x.Ends)).setCell ⟨w.heap.size, k * 7 + 5, none⟩ (.int .i64 x.Limit)).setCell ⟨w.heap.size, k * 7 + 6, none⟩ (.int .i64 x.Uses)) := by (repeat (first | (with_reducible exact Out.refl _ _) | (with_reducible assumption) | ((with_reducible refine Out.setCell ?_ ?_ _); rotate_left; focus (first | (refine Or.inl ?_; (first | omega | (simp; done) | (simp; omega))) | (refine Or.inr ?_; (first | omega | (simp; done) | (simp; omega))))) | (with_reducible refine Out.alloc ?_ _) | (with_reducible refine Out.drew ?_) | (with_reducible refine Out.drewN ?_ _) | (refine Out.step ?_ (by with_reducible assumption))))
        have hN := TokenR.own_off (TokenR.own_wide ho2' (inR_mono (lo' := wr.heap.size) (hi' := w2.heap.size) (by first | omega | (simp; done) | (simp; omega)) (by first | omega | (simp; done) | (simp; omega)))) hOf
        have B9 := B8.snoc hN (by omega) (by first | omega | (simp; done) | (simp; omega)) (fun s hs g hg => (hpre s hs g hg).2)
        refine ⟨k + 1, css.set k [.int .i64 x.Id, .int .i64 x.Parent, .slice D0 x.Names.length d0, .int .i64 x.Made, .int .i64 x.Ends, .int .i64 x.Limit, .int .i64 x.Uses], Ss ++ [InR wr.heap.size w2.heap.size], by omega, by go_num, J7.rows, by rw [List.length_set]; exact hcl, Lib.hid J7.len'.2, ?_, by (repeat (first | (with_reducible exact Below.refl _ _) | (with_reducible assumption) | ((with_reducible refine Below.setCell ?_ ?_ _); rotate_left; focus (first | omega | (simp; done) | (simp; omega))) | ((with_reducible refine Below.alloc ?_ ?_ _); rotate_left; focus (first | omega | (simp; done) | (simp; omega))) | (with_reducible refine Below.drew ?_) | (with_reducible refine below_drewN ?_ _) | (refine Below.trans ?_ (Below.mono (by with_reducible assumption) (by (first | omega | (simp; done) | (simp; omega))))))), (by first | omega | (simp; done) | (simp; omega))⟩
        rw [take_snoc HX.out, List.take_succ_eq_append_getElem (by rw [List.length_set]; exact hkl), List.take_set_of_le (Nat.le_refl _), List.getElem_set_self]
        exact B9
      case measure => simp [intOf]; omega
    · obtain rfl : k = n := by omega
      have h1 : css.take k = css := List.take_of_length_le (by rw [hcl.out]; exact Nat.le_refl _)
      have h2 : xs.take k = xs := List.take_of_length_le (by rw [Hn.out]; exact Nat.le_refl _)
      rw [h1, h2] at hbt
      have H1 := Lib.hid h1
      have H2 := Lib.hid h2
      clear h1 h2
      go_wp2
      go_ret
      refine ⟨_, rfl, ?_, hb⟩
      have hf := hbt.own (S := InR w.heap.size wr.heap.size) (c := k) hrw (by rw [Hn.out]; exact Nat.le_refl _) (by omega) (fun g hg => by rw [hg]; exact ⟨Nat.le_refl _, hzr⟩) (fun s hs g hg => ⟨⟨by have := (hbt.inn s hs g hg).1; omega, (hbt.inn s hs g hg).2⟩, fun hg' => by have := (hbt.inn s hs g hg).1; omega⟩)
      rw [Hn.out] at hf
      exact hf
set_option maxHeartbeats 3200000 in
theorem eq2_TokenS (v v' : Value) (xs ys : List Token) (w : World) (h : SlRd TokenR w w.heap.size v xs) (h' : SlRd TokenR w w.heap.size v' ys) (hm : szList TokenR xs ≤ 140737488351232) (hm' : szList TokenR ys ≤ 140737488351232) :
    Calls Tryd.prog 28 #[v, v'] w fun e w' => e = .returned (.bool (decide (xs = ys))) ∧ Below w.heap.size w w' := by
  obtain ⟨A, c, rfl⟩ := h.form
  obtain ⟨A', c', rfl⟩ := h'.form
  obtain ⟨hc1, hc2⟩ := h.caps
  obtain ⟨hc1', hc2'⟩ := h'.caps
  have HE : Hid (∀ k x, xs[k]? = some x → TokenR.sz x ≤ 140737488351232) := Lib.hid (fun k x hx => Nat.le_trans (szList_one hx) hm)
  have HE' : Hid (∀ k x, ys[k]? = some x → TokenR.sz x ≤ 140737488351232) := Lib.hid (fun k x hx => Nat.le_trans (szList_one hx) hm')
  clear hm hm'
  generalize hn : xs.length = n at *
  have Hn := Lib.hid hn
  clear hn
  generalize hn' : ys.length = n' at *
  have Hn' := Lib.hid hn'
  clear hn'
  by_cases hl : n = n'
  · subst hl
    go_enter Tryd.func28, Tryd.ntmps28
    go_wp2
    go_loopw [5] (fun i wr => ∃ k : Nat, k ≤ n ∧ i = .int .i64 k ∧ Below w.heap.size w wr ∧ Hid (xs.take k = ys.take k)) (fun i _ => n - (intOf i).toNat)
    case atStart => exact ⟨0, Nat.zero_le _, rfl, Below.refl _ _, rfl⟩
    case round =>
      obtain ⟨k, hk, rfl, hb, he⟩ := hrel
      have hzr := hb.size
      by_cases hlt : k < n
      · have hlx : k < xs.length := by rw [Hn.out]; exact hlt
        have hly : k < ys.length := by rw [Hn'.out]; exact hlt
        have hx := List.getElem?_eq_getElem hlx
        have hy := List.getElem?_eq_getElem hly
        generalize xs[k]'hlx = x at hx
        generalize ys[k]'hly = y at hy
        obtain ⟨b, off, cs, rfl, hab, hrd, hcell⟩ := h.elem hx
        obtain ⟨b', off', cs', rfl, hab', hrd', hcell'⟩ := h'.elem hy
        have hsx := HE.out k x hx
        have hsy := HE'.out k y hy
        have HX := Lib.hid hx
        have HY := Lib.hid hy
        clear hx hy
        have hrd2 := hrd
        have hrd2' := hrd'
        obtain ⟨_, rfl, q0⟩ := rd_Token hrd
        obtain ⟨A0, c0, rfl⟩ := q0.form
        obtain ⟨_, rfl, p0⟩ := rd_Token hrd'
        obtain ⟨D0, d0, rfl⟩ := p0.form
        have C := Lib.hid (fun (w' : World) (hb' : Below w.heap.size w w') (i : Nat) (u : Value) (hu : [.int .i64 x.Id, .int .i64 x.Parent, .slice A0 x.Names.length c0, .int .i64 x.Made, .int .i64 x.Ends, .int .i64 x.Limit, .int .i64 x.Uses][i]? = some u) => (hb'.cell (p := ⟨b, off + (k * 7 + i), none⟩) hab).trans (hcell i u hu))
        have C' := Lib.hid (fun (w' : World) (hb' : Below w.heap.size w w') (i : Nat) (u : Value) (hu : [.int .i64 y.Id, .int .i64 y.Parent, .slice D0 y.Names.length d0, .int .i64 y.Made, .int .i64 y.Ends, .int .i64 y.Limit, .int .i64 y.Uses][i]? = some u) => (hb'.cell (p := ⟨b', off' + (k * 7 + i), none⟩) hab').trans (hcell' i u hu))
        clear hcell hcell' hrd hrd'
        go_wp2
        go_region_held3 (fun w' => w'.cell? ⟨b, off + k * 7, none⟩ = some (.int .i64 x.Id) ∧ w'.cell? ⟨b, off + k * 7 + 1, none⟩ = some (.int .i64 x.Parent) ∧ w'.cell? ⟨b, off + k * 7 + 2, none⟩ = some (.slice A0 x.Names.length c0) ∧ w'.cell? ⟨b, off + k * 7 + 3, none⟩ = some (.int .i64 x.Made) ∧ w'.cell? ⟨b, off + k * 7 + 4, none⟩ = some (.int .i64 x.Ends) ∧ w'.cell? ⟨b, off + k * 7 + 5, none⟩ = some (.int .i64 x.Limit) ∧ w'.cell? ⟨b, off + k * 7 + 6, none⟩ = some (.int .i64 x.Uses) ∧ w'.cell? ⟨b', off' + k * 7, none⟩ = some (.int .i64 y.Id) ∧ w'.cell? ⟨b', off' + k * 7 + 1, none⟩ = some (.int .i64 y.Parent) ∧ w'.cell? ⟨b', off' + k * 7 + 2, none⟩ = some (.slice D0 y.Names.length d0) ∧ w'.cell? ⟨b', off' + k * 7 + 3, none⟩ = some (.int .i64 y.Made) ∧ w'.cell? ⟨b', off' + k * 7 + 4, none⟩ = some (.int .i64 y.Ends) ∧ w'.cell? ⟨b', off' + k * 7 + 5, none⟩ = some (.int .i64 y.Limit) ∧ w'.cell? ⟨b', off' + k * 7 + 6, none⟩ = some (.int .i64 y.Uses))
          (first | exact ⟨C.out _ (by (repeat (first | (with_reducible exact Below.refl _ _) | (with_reducible assumption) | ((with_reducible refine Below.setCell ?_ ?_ _); rotate_left; focus (first | omega | (simp; done) | (simp; omega))) | ((with_reducible refine Below.alloc ?_ ?_ _); rotate_left; focus (first | omega | (simp; done) | (simp; omega))) | (with_reducible refine Below.drew ?_) | (with_reducible refine below_drewN ?_ _) | (refine Below.trans ?_ (Below.mono (by with_reducible assumption) (by (first | omega | (simp; done) | (simp; omega)))))))) 0 _ rfl, C.out _ (by (repeat (first | (with_reducible exact Below.refl _ _) | (with_reducible assumption) | ((with_reducible refine Below.setCell ?_ ?_ _); rotate_left; focus (first | omega | (simp; done) | (simp; omega))) | ((with_reducible refine Below.alloc ?_ ?_ _); rotate_left; focus (first | omega | (simp; done) | (simp; omega))) | (with_reducible refine Below.drew ?_) | (with_reducible refine below_drewN ?_ _) | (refine Below.trans ?_ (Below.mono (by with_reducible assumption) (by (first | omega | (simp; done) | (simp; omega)))))))) 1 _ rfl, C.out _ (by (repeat (first | (with_reducible exact Below.refl _ _) | (with_reducible assumption) | ((with_reducible refine Below.setCell ?_ ?_ _); rotate_left; focus (first | omega | (simp; done) | (simp; omega))) | ((with_reducible refine Below.alloc ?_ ?_ _); rotate_left; focus (first | omega | (simp; done) | (simp; omega))) | (with_reducible refine Below.drew ?_) | (with_reducible refine below_drewN ?_ _) | (refine Below.trans ?_ (Below.mono (by with_reducible assumption) (by (first | omega | (simp; done) | (simp; omega)))))))) 2 _ rfl, C.out _ (by (repeat (first | (with_reducible exact Below.refl _ _) | (with_reducible assumption) | ((with_reducible refine Below.setCell ?_ ?_ _); rotate_left; focus (first | omega | (simp; done) | (simp; omega))) | ((with_reducible refine Below.alloc ?_ ?_ _); rotate_left; focus (first | omega | (simp; done) | (simp; omega))) | (with_reducible refine Below.drew ?_) | (with_reducible refine below_drewN ?_ _) | (refine Below.trans ?_ (Below.mono (by with_reducible assumption) (by (first | omega | (simp; done) | (simp; omega)))))))) 3 _ rfl, C.out _ (by (repeat (first | (with_reducible exact Below.refl _ _) | (with_reducible assumption) | ((with_reducible refine Below.setCell ?_ ?_ _); rotate_left; focus (first | omega | (simp; done) | (simp; omega))) | ((with_reducible refine Below.alloc ?_ ?_ _); rotate_left; focus (first | omega | (simp; done) | (simp; omega))) | (with_reducible refine Below.drew ?_) | (with_reducible refine below_drewN ?_ _) | (refine Below.trans ?_ (Below.mono (by with_reducible assumption) (by (first | omega | (simp; done) | (simp; omega)))))))) 4 _ rfl, C.out _ (by (repeat (first | (with_reducible exact Below.refl _ _) | (with_reducible assumption) | ((with_reducible refine Below.setCell ?_ ?_ _); rotate_left; focus (first | omega | (simp; done) | (simp; omega))) | ((with_reducible refine Below.alloc ?_ ?_ _); rotate_left; focus (first | omega | (simp; done) | (simp; omega))) | (with_reducible refine Below.drew ?_) | (with_reducible refine below_drewN ?_ _) | (refine Below.trans ?_ (Below.mono (by with_reducible assumption) (by (first | omega | (simp; done) | (simp; omega)))))))) 5 _ rfl, C.out _ (by (repeat (first | (with_reducible exact Below.refl _ _) | (with_reducible assumption) | ((with_reducible refine Below.setCell ?_ ?_ _); rotate_left; focus (first | omega | (simp; done) | (simp; omega))) | ((with_reducible refine Below.alloc ?_ ?_ _); rotate_left; focus (first | omega | (simp; done) | (simp; omega))) | (with_reducible refine Below.drew ?_) | (with_reducible refine below_drewN ?_ _) | (refine Below.trans ?_ (Below.mono (by with_reducible assumption) (by (first | omega | (simp; done) | (simp; omega)))))))) 6 _ rfl, C'.out _ (by (repeat (first | (with_reducible exact Below.refl _ _) | (with_reducible assumption) | ((with_reducible refine Below.setCell ?_ ?_ _); rotate_left; focus (first | omega | (simp; done) | (simp; omega))) | ((with_reducible refine Below.alloc ?_ ?_ _); rotate_left; focus (first | omega | (simp; done) | (simp; omega))) | (with_reducible refine Below.drew ?_) | (with_reducible refine below_drewN ?_ _) | (refine Below.trans ?_ (Below.mono (by with_reducible assumption) (by (first | omega | (simp; done) | (simp; omega)))))))) 0 _ rfl, C'.out _ (by (repeat (first | (with_reducible exact Below.refl _ _) | (with_reducible assumption) | ((with_reducible refine Below.setCell ?_ ?_ _); rotate_left; focus (first | omega | (simp; done) | (simp; omega))) | ((with_reducible refine Below.alloc ?_ ?_ _); rotate_left; focus (first | omega | (simp; done) | (simp; omega))) | (with_reducible refine Below.drew ?_) | (with_reducible refine below_drewN ?_ _) | (refine Below.trans ?_ (Below.mono (by with_reducible assumption) (by (first | omega | (simp; done) | (simp; omega)))))))) 1 _ rfl, C'.out _ (by (repeat (first | (with_reducible exact Below.refl _ _) | (with_reducible assumption) | ((with_reducible refine Below.setCell ?_ ?_ _); rotate_left; focus (first | omega | (simp; done) | (simp; omega))) | ((with_reducible refine Below.alloc ?_ ?_ _); rotate_left; focus (first | omega | (simp; done) | (simp; omega))) | (with_reducible refine Below.drew ?_) | (with_reducible refine below_drewN ?_ _) | (refine Below.trans ?_ (Below.mono (by with_reducible assumption) (by (first | omega | (simp; done) | (simp; omega)))))))) 2 _ rfl, C'.out _ (by (repeat (first | (with_reducible exact Below.refl _ _) | (with_reducible assumption) | ((with_reducible refine Below.setCell ?_ ?_ _); rotate_left; focus (first | omega | (simp; done) | (simp; omega))) | ((with_reducible refine Below.alloc ?_ ?_ _); rotate_left; focus (first | omega | (simp; done) | (simp; omega))) | (with_reducible refine Below.drew ?_) | (with_reducible refine below_drewN ?_ _) | (refine Below.trans ?_ (Below.mono (by with_reducible assumption) (by (first | omega | (simp; done) | (simp; omega)))))))) 3 _ rfl, C'.out _ (by (repeat (first | (with_reducible exact Below.refl _ _) | (with_reducible assumption) | ((with_reducible refine Below.setCell ?_ ?_ _); rotate_left; focus (first | omega | (simp; done) | (simp; omega))) | ((with_reducible refine Below.alloc ?_ ?_ _); rotate_left; focus (first | omega | (simp; done) | (simp; omega))) | (with_reducible refine Below.drew ?_) | (with_reducible refine below_drewN ?_ _) | (refine Below.trans ?_ (Below.mono (by with_reducible assumption) (by (first | omega | (simp; done) | (simp; omega)))))))) 4 _ rfl, C'.out _ (by (repeat (first | (with_reducible exact Below.refl _ _) | (with_reducible assumption) | ((with_reducible refine Below.setCell ?_ ?_ _); rotate_left; focus (first | omega | (simp; done) | (simp; omega))) | ((with_reducible refine Below.alloc ?_ ?_ _); rotate_left; focus (first | omega | (simp; done) | (simp; omega))) | (with_reducible refine Below.drew ?_) | (with_reducible refine below_drewN ?_ _) | (refine Below.trans ?_ (Below.mono (by with_reducible assumption) (by (first | omega | (simp; done) | (simp; omega)))))))) 5 _ rfl, C'.out _ (by (repeat (first | (with_reducible exact Below.refl _ _) | (with_reducible assumption) | ((with_reducible refine Below.setCell ?_ ?_ _); rotate_left; focus (first | omega | (simp; done) | (simp; omega))) | ((with_reducible refine Below.alloc ?_ ?_ _); rotate_left; focus (first | omega | (simp; done) | (simp; omega))) | (with_reducible refine Below.drew ?_) | (with_reducible refine below_drewN ?_ _) | (refine Below.trans ?_ (Below.mono (by with_reducible assumption) (by (first | omega | (simp; done) | (simp; omega)))))))) 6 _ rfl⟩)
          (first | (go_at_call 48; refine (eq2_Token _ _ x y _ (TokenR.rd_keep hrd2 (by (repeat (first | (with_reducible exact Below.refl _ _) | (with_reducible assumption) | ((with_reducible refine Below.setCell ?_ ?_ _); rotate_left; focus (first | omega | (simp; done) | (simp; omega))) | ((with_reducible refine Below.alloc ?_ ?_ _); rotate_left; focus (first | omega | (simp; done) | (simp; omega))) | (with_reducible refine Below.drew ?_) | (with_reducible refine below_drewN ?_ _) | (refine Below.trans ?_ (Below.mono (by with_reducible assumption) (by (first | omega | (simp; done) | (simp; omega)))))))) (by first | omega | (simp; done) | (simp; omega))) (TokenR.rd_keep hrd2' (by (repeat (first | (with_reducible exact Below.refl _ _) | (with_reducible assumption) | ((with_reducible refine Below.setCell ?_ ?_ _); rotate_left; focus (first | omega | (simp; done) | (simp; omega))) | ((with_reducible refine Below.alloc ?_ ?_ _); rotate_left; focus (first | omega | (simp; done) | (simp; omega))) | (with_reducible refine Below.drew ?_) | (with_reducible refine below_drewN ?_ _) | (refine Below.trans ?_ (Below.mono (by with_reducible assumption) (by (first | omega | (simp; done) | (simp; omega)))))))) (by first | omega | (simp; done) | (simp; omega))) hsx hsy).mono ?_; rintro e w2 ⟨rfl, hb2⟩))
        go_wp2
        · have hst : (!decide (x = y)) = true := by assumption
          go_ret
          exact ⟨ret_bool (ne_of_at HX.out HY.out (by simpa using hst)).symm, by (repeat (first | (with_reducible exact Below.refl _ _) | (with_reducible assumption) | ((with_reducible refine Below.setCell ?_ ?_ _); rotate_left; focus (first | omega | (simp; done) | (simp; omega))) | ((with_reducible refine Below.alloc ?_ ?_ _); rotate_left; focus (first | omega | (simp; done) | (simp; omega))) | (with_reducible refine Below.drew ?_) | (with_reducible refine below_drewN ?_ _) | (refine Below.trans ?_ (Below.mono (by with_reducible assumption) (by (first | omega | (simp; done) | (simp; omega)))))))⟩
        · have hst : (!decide (x = y)) = false := by assumption
          go_roundw
          case rel => exact ⟨k + 1, by omega, by go_num, by (repeat (first | (with_reducible exact Below.refl _ _) | (with_reducible assumption) | ((with_reducible refine Below.setCell ?_ ?_ _); rotate_left; focus (first | omega | (simp; done) | (simp; omega))) | ((with_reducible refine Below.alloc ?_ ?_ _); rotate_left; focus (first | omega | (simp; done) | (simp; omega))) | (with_reducible refine Below.drew ?_) | (with_reducible refine below_drewN ?_ _) | (refine Below.trans ?_ (Below.mono (by with_reducible assumption) (by (first | omega | (simp; done) | (simp; omega))))))), take_step he.out HX.out HY.out (by simpa using hst)⟩
          case measure => simp [intOf]; omega
      · obtain rfl : k = n := by omega
        go_wp2
        go_ret
        exact ⟨ret_bool (by simp [eq_of_take he.out Hn.out Hn'.out]), by (repeat (first | (with_reducible exact Below.refl _ _) | (with_reducible assumption) | ((with_reducible refine Below.setCell ?_ ?_ _); rotate_left; focus (first | omega | (simp; done) | (simp; omega))) | ((with_reducible refine Below.alloc ?_ ?_ _); rotate_left; focus (first | omega | (simp; done) | (simp; omega))) | (with_reducible refine Below.drew ?_) | (with_reducible refine below_drewN ?_ _) | (refine Below.trans ?_ (Below.mono (by with_reducible assumption) (by (first | omega | (simp; done) | (simp; omega)))))))⟩
  · go_enter Tryd.func28, Tryd.ntmps28
    have hb : ((n : Int) != n') = true := by simp; omega
    go_wp2
    go_ret
    exact ⟨ret_bool (ne_of_len Hn.out Hn'.out hl).symm, Below.refl _ _⟩
theorem cnt1_Token (x : Token) (k : Nat) : k + TokenR.cnt x = k + 1 + 1 + cntList strR x.Names + 1 + 1 + 1 + 1 := by
  simp only [TokenR, Rep.as, Rep.pair, Rep.sl, intR, Rep.flat]; omega
theorem mark1_Token (x : Token) (k : Nat) : TokenR.mark k x = ⟨((k : Nat) : Int), ((k + 1 : Nat) : Int), mkList strR (k + 1 + 1) x.Names, ((k + 1 + 1 + cntList strR x.Names : Nat) : Int), ((k + 1 + 1 + cntList strR x.Names + 1 : Nat) : Int), ((k + 1 + 1 + cntList strR x.Names + 1 + 1 : Nat) : Int), ((k + 1 + 1 + cntList strR x.Names + 1 + 1 + 1 : Nat) : Int)⟩ := rfl
set_option maxHeartbeats 6400000 in
theorem mark2_TokenS (v : Value) (xs : List Token) (S : Nat → Prop) (k : Nat) (w : World) (h : SlOwn TokenR 48 w S v xs) (hm : szList TokenR xs ≤ 2097152) (hS : ∀ g, S g → g < w.heap.size) (h0 : 0 < k) (hk : k ≤ 100000000) :
    Calls Tryd.prog 29 #[v, .int .i64 k] w fun e w' => e = .returned (.int .i64 ((k + cntList TokenR xs : Nat) : Int)) ∧ SlOwn TokenR 48 w' S v (mkList TokenR k xs) ∧ Out S w w' := by
  have hcb : cntList TokenR xs ≤ 35000000 := by have := cnt_bd_TokenS xs; omega
  obtain ⟨A, c, css0, S0, Ss, rfl, hc1, hc2, hrw, hall, hS0, hSs, hpw⟩ := h
  have HT : Hid (∀ j x, xs[j]? = some x → cntList TokenR (xs.take j) + TokenR.cnt x ≤ cntList TokenR xs) := Lib.hid (fun j x hx => by rw [← cntList_snoc TokenR hx]; exact sum_take_le _ _ _)
  have HSz : Hid (∀ j x, xs[j]? = some x → TokenR.sz x ≤ 2097152) := Lib.hid (fun j x hx => Nat.le_trans (szList_one hx) hm)
  have HF : Hid (∀ (w' : World) (css : List (List Value)), Rows w' S0 48 7 A css → OwnAll TokenR w' Ss css (mkList TokenR k xs) → SlOwn TokenR 48 w' S (.slice A xs.length c) (mkList TokenR k xs)) := Lib.hid (fun w' css a b => ⟨A, c, css, S0, Ss, by rw [mkList_len], by rw [mkList_len]; exact hc1, hc2, a, b, hS0, hSs, hpw⟩)
  have HP : Hid (∀ i j (s u : Nat → Prop), i ≠ j → Ss[i]? = some s → Ss[j]? = some u → ∀ g, s g → ¬ u g) := Lib.hid (fun i j s u hij hi hj => pairwise_get hpw (fun a b hab g hg hg' => hab g hg' hg) hij hi hj)
  have HA : Hid (∀ i (s : Nat → Prop), Ss[i]? = some s → ∀ g, s g → S g ∧ ¬ S0 g) := Lib.hid (fun i s hi => hSs s (List.mem_of_getElem? hi))
  have hall0 : OwnAll TokenR w Ss css0 (mkTo TokenR k xs 0) := by rw [mkTo_zero]; exact hall
  have HL : Hid (Ss.length = xs.length) := Lib.hid hall.2.1
  generalize hn : xs.length = n at *
  have Hn := Lib.hid hn
  generalize hN : cntList TokenR xs = N at *
  have HN := Lib.hid hN
  clear hn hN hm hall hpw hSs
  go_enter Tryd.func29, Tryd.ntmps29
  go_wp2
  go_loopw [1, 5] (fun kk i wr => ∃ (j q : Nat) (css : List (List Value)), j ≤ n ∧ i = .int .i64 j ∧ kk = .int .i64 ((k : Int) + (q : Int)) ∧ Hid (q = cntList TokenR (xs.take j)) ∧ Rows wr S0 48 7 A css ∧ OwnAll TokenR wr Ss css (mkTo TokenR k xs j) ∧ Out S w wr) (fun _ i _ => n - (intOf i).toNat)
  case atStart => exact ⟨0, 0, css0, Nat.zero_le _, rfl, by simp, rfl, hrw, hall0, Out.refl _ _⟩
  case round =>
    clear hrw hall0
    obtain ⟨j, q, css, hj, rfl, rfl, hq, hrw, hall, ho⟩ := hrel
    have hzr := ho.size
    by_cases hlt : j < n
    · have hlx : j < xs.length := by rw [Hn.out]; exact hlt
      have hx := List.getElem?_eq_getElem hlx
      generalize xs[j]'hlx = x at hx
      have hqb := HT.out j x hx
      have hsz := HSz.out j x hx
      rw [← hq.out] at hqb
      have hy := mkTo_get TokenR k hx
      have hcl : css.length = xs.length := by rw [hall.1, mkTo_len _ _ _ _ (Nat.le_of_lt hlx)]
      have hsl := HL.out
      have hnx := Hn.out
      have hje := List.getElem?_eq_getElem (l := css) (i := j) (by omega)
      have hse := List.getElem?_eq_getElem (l := Ss) (i := j) (by omega)
      generalize css[j]'(by omega) = cs at hje
      generalize Ss[j]'(by omega) = Sj at hse
      have hown := hall.2.2 j Sj cs x hse hje hy
      obtain ⟨g, off, rfl⟩ := hrw.addr (by omega)
      have hlens : ∀ cs ∈ css, cs.length = 7 := fun cs' hcs => by
        obtain ⟨i, hi, rfl⟩ := List.mem_iff_getElem.1 hcs
        have hi1 : i < Ss.length := by omega
        have hi2 : i < (mkTo TokenR k xs j).length := by rw [← hall.1]; exact hi
        exact TokenR.own_len (hall.2.2 i _ _ _ (List.getElem?_eq_getElem hi1) (List.getElem?_eq_getElem hi) (List.getElem?_eq_getElem hi2))
      have HX := Lib.hid hx
      have HJE := Lib.hid hje
      have HSE := Lib.hid hse
      have HCL := Lib.hid hcl
      have J0 := RowsJ.start hrw hlens hje
      have HAj := HA.out j Sj hse
      clear hx hje hse hcl hy hnx hsl
      obtain ⟨_, Sq0, rfl, E0, sq0⟩ := own_Token hown
      obtain ⟨A0, c0, rfl⟩ := E0.form
      rw [sz_Token] at hsz
      obtain ⟨hSg, hgl, hat⟩ := J0.at_
      have hgS : S g := hS0 g hSg
      have hgw : g < w.heap.size := hS g hgS
      have hd0_ : wr.cell? ⟨g, off + j * 7, none⟩ = some (.int .i64 x.Id) := (hat 0 _ rfl).1
      have he0_ : wr.frozen? ⟨g, off + j * 7, none⟩ = false := (hat 0 _ rfl).2
      have hd1_ : wr.cell? ⟨g, off + j * 7 + 1, none⟩ = some (.int .i64 x.Parent) := (hat 1 _ rfl).1
      have he1_ : wr.frozen? ⟨g, off + j * 7 + 1, none⟩ = false := (hat 1 _ rfl).2
      have hd2_ : wr.cell? ⟨g, off + j * 7 + 2, none⟩ = some (.slice A0 x.Names.length c0) := (hat 2 _ rfl).1
      have he2_ : wr.frozen? ⟨g, off + j * 7 + 2, none⟩ = false := (hat 2 _ rfl).2
      have hd3_ : wr.cell? ⟨g, off + j * 7 + 3, none⟩ = some (.int .i64 x.Made) := (hat 3 _ rfl).1
      have he3_ : wr.frozen? ⟨g, off + j * 7 + 3, none⟩ = false := (hat 3 _ rfl).2
      have hd4_ : wr.cell? ⟨g, off + j * 7 + 4, none⟩ = some (.int .i64 x.Ends) := (hat 4 _ rfl).1
      have he4_ : wr.frozen? ⟨g, off + j * 7 + 4, none⟩ = false := (hat 4 _ rfl).2
      have hd5_ : wr.cell? ⟨g, off + j * 7 + 5, none⟩ = some (.int .i64 x.Limit) := (hat 5 _ rfl).1
      have he5_ : wr.frozen? ⟨g, off + j * 7 + 5, none⟩ = false := (hat 5 _ rfl).2
      have hd6_ : wr.cell? ⟨g, off + j * 7 + 6, none⟩ = some (.int .i64 x.Uses) := (hat 6 _ rfl).1
      have he6_ : wr.frozen? ⟨g, off + j * 7 + 6, none⟩ = false := (hat 6 _ rfl).2
      clear hat
      have hOr : Out (fun z => z = g ∨ Sj z) wr wr := Out.refl _ _
      have hcq0 := cnt_bd_StringS x.Names
      rw [show q + TokenR.cnt x = q + 1 + 1 + cntList strR x.Names + 1 + 1 + 1 + 1 from cnt1_Token x q] at hqb
      go_wp2_with fail
      have J1 : RowsJ (wr.setCell ⟨g, off + j * 7, none⟩ (.int .i64 ((k : Int) + (q : Int)))) S0 48 7 (some ⟨g, off, none⟩) css j [.int .i64 ((k : Int) + (q : Int)), .int .i64 x.Parent, .slice A0 x.Names.length c0, .int .i64 x.Made, .int .i64 x.Ends, .int .i64 x.Limit, .int .i64 x.Uses] := J0.set (i := 0) (by omega) (.int .i64 ((k : Int) + (q : Int)))
      replace hOr : Out (fun z => z = g ∨ Sj z) wr (wr.setCell ⟨g, off + j * 7, none⟩ (.int .i64 ((k : Int) + (q : Int)))) := hOr.setCell (p := ⟨g, off + j * 7, none⟩) (Or.inl rfl) _
      replace E0 := E0.out (T := fun z => z = g) ((Out.refl (fun z => z = g) wr).setCell (p := ⟨g, off + j * 7, none⟩) rfl (.int .i64 ((k : Int) + (q : Int)))) (fun z hz hz' => (HAj z (sq0 z hz)).2 (hz' ▸ hSg))
      have J2 : RowsJ ((wr.setCell ⟨g, off + j * 7, none⟩ (.int .i64 ((k : Int) + (q : Int)))).setCell ⟨g, off + j * 7 + 1, none⟩ (.int .i64 ((k : Int) + (q : Int) + 1))) S0 48 7 (some ⟨g, off, none⟩) css j [.int .i64 ((k : Int) + (q : Int)), .int .i64 ((k : Int) + (q : Int) + 1), .slice A0 x.Names.length c0, .int .i64 x.Made, .int .i64 x.Ends, .int .i64 x.Limit, .int .i64 x.Uses] := J1.set (i := 1) (by omega) (.int .i64 ((k : Int) + (q : Int) + 1))
      replace hOr : Out (fun z => z = g ∨ Sj z) wr ((wr.setCell ⟨g, off + j * 7, none⟩ (.int .i64 ((k : Int) + (q : Int)))).setCell ⟨g, off + j * 7 + 1, none⟩ (.int .i64 ((k : Int) + (q : Int) + 1))) := hOr.setCell (p := ⟨g, off + j * 7 + 1, none⟩) (Or.inl rfl) _
      replace E0 := E0.out (T := fun z => z = g) ((Out.refl (fun z => z = g) (wr.setCell ⟨g, off + j * 7, none⟩ (.int .i64 ((k : Int) + (q : Int))))).setCell (p := ⟨g, off + j * 7 + 1, none⟩) rfl (.int .i64 ((k : Int) + (q : Int) + 1))) (fun z hz hz' => (HAj z (sq0 z hz)).2 (hz' ▸ hSg))
      refine (Calls.cast (by push_cast; rfl) (mark2_StringS _ _ _ (k + q + 1 + 1) _ E0 (Nat.le_trans (Nat.le_add_right _ _) (by omega : szList strR x.Names ≤ 2097152)) (fun z hz => by have h1 := hS z (HAj z (sq0 z hz)).1; have h2 := hOr.size; omega) (by omega) (by omega))).mono ?_
      rintro e w1 ⟨rfl, F0, hO0⟩
      replace hOr := hOr.trans (hO0.wide (fun z hz => Or.inr (sq0 z hz)))
      have J3 := J2.out hO0 (fun z hz hz' => (HAj z (sq0 z hz')).2 hz)
      replace E0 := F0
      obtain ⟨_, hgl1, hat⟩ := J3.at_
      have hd2_ : w1.cell? ⟨g, off + j * 7 + 2, none⟩ = some (.slice A0 x.Names.length c0) := (hat 2 _ rfl).1
      have he2_ : w1.frozen? ⟨g, off + j * 7 + 2, none⟩ = false := (hat 2 _ rfl).2
      have hd3_ : w1.cell? ⟨g, off + j * 7 + 3, none⟩ = some (.int .i64 x.Made) := (hat 3 _ rfl).1
      have he3_ : w1.frozen? ⟨g, off + j * 7 + 3, none⟩ = false := (hat 3 _ rfl).2
      have hd4_ : w1.cell? ⟨g, off + j * 7 + 4, none⟩ = some (.int .i64 x.Ends) := (hat 4 _ rfl).1
      have he4_ : w1.frozen? ⟨g, off + j * 7 + 4, none⟩ = false := (hat 4 _ rfl).2
      have hd5_ : w1.cell? ⟨g, off + j * 7 + 5, none⟩ = some (.int .i64 x.Limit) := (hat 5 _ rfl).1
      have he5_ : w1.frozen? ⟨g, off + j * 7 + 5, none⟩ = false := (hat 5 _ rfl).2
      have hd6_ : w1.cell? ⟨g, off + j * 7 + 6, none⟩ = some (.int .i64 x.Uses) := (hat 6 _ rfl).1
      have he6_ : w1.frozen? ⟨g, off + j * 7 + 6, none⟩ = false := (hat 6 _ rfl).2
      clear hat
      go_wp2
      have J4 : RowsJ (w1.setCell ⟨g, off + j * 7 + 3, none⟩ (.int .i64 ((k : Int) + (q : Int) + 1 + 1 + (cntList strR x.Names : Nat)))) S0 48 7 (some ⟨g, off, none⟩) css j [.int .i64 ((k : Int) + (q : Int)), .int .i64 ((k : Int) + (q : Int) + 1), .slice A0 x.Names.length c0, .int .i64 ((k : Int) + (q : Int) + 1 + 1 + (cntList strR x.Names : Nat)), .int .i64 x.Ends, .int .i64 x.Limit, .int .i64 x.Uses] := J3.set (i := 3) (by omega) (.int .i64 ((k : Int) + (q : Int) + 1 + 1 + (cntList strR x.Names : Nat)))
      replace hOr : Out (fun z => z = g ∨ Sj z) wr (w1.setCell ⟨g, off + j * 7 + 3, none⟩ (.int .i64 ((k : Int) + (q : Int) + 1 + 1 + (cntList strR x.Names : Nat)))) := hOr.setCell (p := ⟨g, off + j * 7 + 3, none⟩) (Or.inl rfl) _
      replace E0 := E0.out (T := fun z => z = g) ((Out.refl (fun z => z = g) w1).setCell (p := ⟨g, off + j * 7 + 3, none⟩) rfl (.int .i64 ((k : Int) + (q : Int) + 1 + 1 + (cntList strR x.Names : Nat)))) (fun z hz hz' => (HAj z (sq0 z hz)).2 (hz' ▸ hSg))
      have J5 : RowsJ ((w1.setCell ⟨g, off + j * 7 + 3, none⟩ (.int .i64 ((k : Int) + (q : Int) + 1 + 1 + (cntList strR x.Names : Nat)))).setCell ⟨g, off + j * 7 + 4, none⟩ (.int .i64 ((k : Int) + (q : Int) + 1 + 1 + (cntList strR x.Names : Nat) + 1))) S0 48 7 (some ⟨g, off, none⟩) css j [.int .i64 ((k : Int) + (q : Int)), .int .i64 ((k : Int) + (q : Int) + 1), .slice A0 x.Names.length c0, .int .i64 ((k : Int) + (q : Int) + 1 + 1 + (cntList strR x.Names : Nat)), .int .i64 ((k : Int) + (q : Int) + 1 + 1 + (cntList strR x.Names : Nat) + 1), .int .i64 x.Limit, .int .i64 x.Uses] := J4.set (i := 4) (by omega) (.int .i64 ((k : Int) + (q : Int) + 1 + 1 + (cntList strR x.Names : Nat) + 1))
      replace hOr : Out (fun z => z = g ∨ Sj z) wr ((w1.setCell ⟨g, off + j * 7 + 3, none⟩ (.int .i64 ((k : Int) + (q : Int) + 1 + 1 + (cntList strR x.Names : Nat)))).setCell ⟨g, off + j * 7 + 4, none⟩ (.int .i64 ((k : Int) + (q : Int) + 1 + 1 + (cntList strR x.Names : Nat) + 1))) := hOr.setCell (p := ⟨g, off + j * 7 + 4, none⟩) (Or.inl rfl) _
      replace E0 := E0.out (T := fun z => z = g) ((Out.refl (fun z => z = g) (w1.setCell ⟨g, off + j * 7 + 3, none⟩ (.int .i64 ((k : Int) + (q : Int) + 1 + 1 + (cntList strR x.Names : Nat))))).setCell (p := ⟨g, off + j * 7 + 4, none⟩) rfl (.int .i64 ((k : Int) + (q : Int) + 1 + 1 + (cntList strR x.Names : Nat) + 1))) (fun z hz hz' => (HAj z (sq0 z hz)).2 (hz' ▸ hSg))
      have J6 : RowsJ (((w1.setCell ⟨g, off + j * 7 + 3, none⟩ (.int .i64 ((k : Int) + (q : Int) + 1 + 1 + (cntList strR x.Names : Nat)))).setCell ⟨g, off + j * 7 + 4, none⟩ (.int .i64 ((k : Int) + (q : Int) + 1 + 1 + (cntList strR x.Names : Nat) + 1))).setCell ⟨g, off + j * 7 + 5, none⟩ (.int .i64 ((k : Int) + (q : Int) + 1 + 1 + (cntList strR x.Names : Nat) + 1 + 1))) S0 48 7 (some ⟨g, off, none⟩) css j [.int .i64 ((k : Int) + (q : Int)), .int .i64 ((k : Int) + (q : Int) + 1), .slice A0 x.Names.length c0, .int .i64 ((k : Int) + (q : Int) + 1 + 1 + (cntList strR x.Names : Nat)), .int .i64 ((k : Int) + (q : Int) + 1 + 1 + (cntList strR x.Names : Nat) + 1), .int .i64 ((k : Int) + (q : Int) + 1 + 1 + (cntList strR x.Names : Nat) + 1 + 1), .int .i64 x.Uses] := J5.set (i := 5) (by omega) (.int .i64 ((k : Int) + (q : Int) + 1 + 1 + (cntList strR x.Names : Nat) + 1 + 1))
      replace hOr : Out (fun z => z = g ∨ Sj z) wr (((w1.setCell ⟨g, off + j * 7 + 3, none⟩ (.int .i64 ((k : Int) + (q : Int) + 1 + 1 + (cntList strR x.Names : Nat)))).setCell ⟨g, off + j * 7 + 4, none⟩ (.int .i64 ((k : Int) + (q : Int) + 1 + 1 + (cntList strR x.Names : Nat) + 1))).setCell ⟨g, off + j * 7 + 5, none⟩ (.int .i64 ((k : Int) + (q : Int) + 1 + 1 + (cntList strR x.Names : Nat) + 1 + 1))) := hOr.setCell (p := ⟨g, off + j * 7 + 5, none⟩) (Or.inl rfl) _
      replace E0 := E0.out (T := fun z => z = g) ((Out.refl (fun z => z = g) ((w1.setCell ⟨g, off + j * 7 + 3, none⟩ (.int .i64 ((k : Int) + (q : Int) + 1 + 1 + (cntList strR x.Names : Nat)))).setCell ⟨g, off + j * 7 + 4, none⟩ (.int .i64 ((k : Int) + (q : Int) + 1 + 1 + (cntList strR x.Names : Nat) + 1)))).setCell (p := ⟨g, off + j * 7 + 5, none⟩) rfl (.int .i64 ((k : Int) + (q : Int) + 1 + 1 + (cntList strR x.Names : Nat) + 1 + 1))) (fun z hz hz' => (HAj z (sq0 z hz)).2 (hz' ▸ hSg))
      have J7 : RowsJ ((((w1.setCell ⟨g, off + j * 7 + 3, none⟩ (.int .i64 ((k : Int) + (q : Int) + 1 + 1 + (cntList strR x.Names : Nat)))).setCell ⟨g, off + j * 7 + 4, none⟩ (.int .i64 ((k : Int) + (q : Int) + 1 + 1 + (cntList strR x.Names : Nat) + 1))).setCell ⟨g, off + j * 7 + 5, none⟩ (.int .i64 ((k : Int) + (q : Int) + 1 + 1 + (cntList strR x.Names : Nat) + 1 + 1))).setCell ⟨g, off + j * 7 + 6, none⟩ (.int .i64 ((k : Int) + (q : Int) + 1 + 1 + (cntList strR x.Names : Nat) + 1 + 1 + 1))) S0 48 7 (some ⟨g, off, none⟩) css j [.int .i64 ((k : Int) + (q : Int)), .int .i64 ((k : Int) + (q : Int) + 1), .slice A0 x.Names.length c0, .int .i64 ((k : Int) + (q : Int) + 1 + 1 + (cntList strR x.Names : Nat)), .int .i64 ((k : Int) + (q : Int) + 1 + 1 + (cntList strR x.Names : Nat) + 1), .int .i64 ((k : Int) + (q : Int) + 1 + 1 + (cntList strR x.Names : Nat) + 1 + 1), .int .i64 ((k : Int) + (q : Int) + 1 + 1 + (cntList strR x.Names : Nat) + 1 + 1 + 1)] := J6.set (i := 6) (by omega) (.int .i64 ((k : Int) + (q : Int) + 1 + 1 + (cntList strR x.Names : Nat) + 1 + 1 + 1))
      replace hOr : Out (fun z => z = g ∨ Sj z) wr ((((w1.setCell ⟨g, off + j * 7 + 3, none⟩ (.int .i64 ((k : Int) + (q : Int) + 1 + 1 + (cntList strR x.Names : Nat)))).setCell ⟨g, off + j * 7 + 4, none⟩ (.int .i64 ((k : Int) + (q : Int) + 1 + 1 + (cntList strR x.Names : Nat) + 1))).setCell ⟨g, off + j * 7 + 5, none⟩ (.int .i64 ((k : Int) + (q : Int) + 1 + 1 + (cntList strR x.Names : Nat) + 1 + 1))).setCell ⟨g, off + j * 7 + 6, none⟩ (.int .i64 ((k : Int) + (q : Int) + 1 + 1 + (cntList strR x.Names : Nat) + 1 + 1 + 1))) := hOr.setCell (p := ⟨g, off + j * 7 + 6, none⟩) (Or.inl rfl) _
      replace E0 := E0.out (T := fun z => z = g) ((Out.refl (fun z => z = g) (((w1.setCell ⟨g, off + j * 7 + 3, none⟩ (.int .i64 ((k : Int) + (q : Int) + 1 + 1 + (cntList strR x.Names : Nat)))).setCell ⟨g, off + j * 7 + 4, none⟩ (.int .i64 ((k : Int) + (q : Int) + 1 + 1 + (cntList strR x.Names : Nat) + 1))).setCell ⟨g, off + j * 7 + 5, none⟩ (.int .i64 ((k : Int) + (q : Int) + 1 + 1 + (cntList strR x.Names : Nat) + 1 + 1)))).setCell (p := ⟨g, off + j * 7 + 6, none⟩) rfl (.int .i64 ((k : Int) + (q : Int) + 1 + 1 + (cntList strR x.Names : Nat) + 1 + 1 + 1))) (fun z hz hz' => (HAj z (sq0 z hz)).2 (hz' ▸ hSg))
      have hcs : ([.int .i64 ((k : Int) + (q : Int)), .int .i64 ((k : Int) + (q : Int) + 1), .slice A0 x.Names.length c0, .int .i64 ((k : Int) + (q : Int) + 1 + 1 + (cntList strR x.Names : Nat)), .int .i64 ((k : Int) + (q : Int) + 1 + 1 + (cntList strR x.Names : Nat) + 1), .int .i64 ((k : Int) + (q : Int) + 1 + 1 + (cntList strR x.Names : Nat) + 1 + 1), .int .i64 ((k : Int) + (q : Int) + 1 + 1 + (cntList strR x.Names : Nat) + 1 + 1 + 1)] : List Value) = [.int .i64 ((k + q : Nat) : Int), .int .i64 ((k + q + 1 : Nat) : Int), .slice A0 x.Names.length c0, .int .i64 ((k + q + 1 + 1 + cntList strR x.Names : Nat) : Int), .int .i64 ((k + q + 1 + 1 + cntList strR x.Names + 1 : Nat) : Int), .int .i64 ((k + q + 1 + 1 + cntList strR x.Names + 1 + 1 : Nat) : Int), .int .i64 ((k + q + 1 + 1 + cntList strR x.Names + 1 + 1 + 1 : Nat) : Int)] := by push_cast; rfl
      rw [hcs] at J7
      have hml0 : x.Names.length = (mkList strR (k + q + 1 + 1) x.Names).length := (mkList_len _ _ _).symm
      have hN : TokenR.Own ((((w1.setCell ⟨g, off + j * 7 + 3, none⟩ (.int .i64 ((k : Int) + (q : Int) + 1 + 1 + (cntList strR x.Names : Nat)))).setCell ⟨g, off + j * 7 + 4, none⟩ (.int .i64 ((k : Int) + (q : Int) + 1 + 1 + (cntList strR x.Names : Nat) + 1))).setCell ⟨g, off + j * 7 + 5, none⟩ (.int .i64 ((k : Int) + (q : Int) + 1 + 1 + (cntList strR x.Names : Nat) + 1 + 1))).setCell ⟨g, off + j * 7 + 6, none⟩ (.int .i64 ((k : Int) + (q : Int) + 1 + 1 + (cntList strR x.Names : Nat) + 1 + 1 + 1))) Sj [.int .i64 ((k + q : Nat) : Int), .int .i64 ((k + q + 1 : Nat) : Int), .slice A0 x.Names.length c0, .int .i64 ((k + q + 1 + 1 + cntList strR x.Names : Nat) : Int), .int .i64 ((k + q + 1 + 1 + cntList strR x.Names + 1 : Nat) : Int), .int .i64 ((k + q + 1 + 1 + cntList strR x.Names + 1 + 1 : Nat) : Int), .int .i64 ((k + q + 1 + 1 + cntList strR x.Names + 1 + 1 + 1 : Nat) : Int)] (TokenR.mark (k + q) x) := by
        rw [mark1_Token]
        have h1 := of_own_Token (S := Sj) (x := ⟨(((k + q) : Nat) : Int), (((k + q) + 1 : Nat) : Int), mkList strR ((k + q) + 1 + 1) x.Names, (((k + q) + 1 + 1 + cntList strR x.Names : Nat) : Int), (((k + q) + 1 + 1 + cntList strR x.Names + 1 : Nat) : Int), (((k + q) + 1 + 1 + cntList strR x.Names + 1 + 1 : Nat) : Int), (((k + q) + 1 + 1 + cntList strR x.Names + 1 + 1 + 1 : Nat) : Int)⟩) E0 sq0
        simp only [mkList_len] at h1
        exact h1
      go_roundw
      case rel =>
        refine ⟨j + 1, q + TokenR.cnt x, css.set j [.int .i64 ((k + q : Nat) : Int), .int .i64 ((k + q + 1 : Nat) : Int), .slice A0 x.Names.length c0, .int .i64 ((k + q + 1 + 1 + cntList strR x.Names : Nat) : Int), .int .i64 ((k + q + 1 + 1 + cntList strR x.Names + 1 : Nat) : Int), .int .i64 ((k + q + 1 + 1 + cntList strR x.Names + 1 + 1 : Nat) : Int), .int .i64 ((k + q + 1 + 1 + cntList strR x.Names + 1 + 1 + 1 : Nat) : Int)], by omega, by go_num, ?_, Lib.hid (by rw [cntList_snoc TokenR HX.out, hq.out]), J7.rows, ?_, ho.trans (hOr.wide (fun z hz => by rcases hz with hz | hz; exact hz ▸ hgS; exact (HAj z hz).1))⟩
        · have h1 := cnt1_Token x q
          have h2 : ((q + TokenR.cnt x : Nat) : Int) = ((q + 1 + 1 + cntList strR x.Names + 1 + 1 + 1 + 1 : Nat) : Int) := by rw [h1]
          push_cast at h2 ⊢
          first | (rw [h2]; simp only [Int.add_assoc]) | (congr 1; omega)
        · rw [mkTo_succ TokenR k HX.out, ← hq.out]
          refine hall.set HSE.out hOr (fun i s hij hi z hz hz' => ?_) hN
          rcases hz' with hz' | hz'
          · exact (HA.out i s hi z hz).2 (hz' ▸ hSg)
          · exact HP.out i j s Sj hij hi HSE.out z hz hz'
      case measure => simp [intOf]; omega
    · obtain rfl : j = n := by omega
      have hq2 := hq.out
      rw [List.take_of_length_le (by rw [Hn.out]; exact Nat.le_refl _), HN.out] at hq2
      subst hq2
      have hall2 : OwnAll TokenR wr Ss css (mkList TokenR k xs) := by rw [← mkTo_all, Hn.out]; exact hall
      go_wp2
      go_ret
      exact ⟨by first | rfl | (push_cast; rfl), HF.out _ _ hrw hall2, ho⟩
end Go.Proofs.YtoijmnnjcoogkaaDoor

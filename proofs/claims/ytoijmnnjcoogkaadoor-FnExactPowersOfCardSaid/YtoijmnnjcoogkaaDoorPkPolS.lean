/- Contracts of the helpers on []Rule (printed by wip/gen/gen2.py). Contracts of the helpers on Policy (printed by wip/gen/gen2.py). Contracts of the helpers on []Policy (printed by wip/gen/gen2.py). -/
import Derived.Test.YtoijmnnjcoogkaaDoorRows
import Derived.Test.YtoijmnnjcoogkaaDoorBuilt
import Derived.Test.YtoijmnnjcoogkaaDoorStringS2
set_option linter.unusedSimpArgs false
set_option linter.unusedVariables false
set_option maxRecDepth 20000
namespace Go.Proofs.YtoijmnnjcoogkaaDoor
open Go.RowKit
theorem bytes_ext (x y : ByteArray) : x.toList = y.toList ↔ x = y := ⟨fun h => by rw [ByteArray.toList_eq, ByteArray.toList_eq] at h; cases x; cases y; simp at h; rw [h], fun h => by rw [h]⟩
structure Rule where
  Glob : ByteArray
  Caps : Int
  deriving DecidableEq
def Rule.cells (x : Rule) : List Value := [.string x.Glob, .int .i64 x.Caps]
theorem Rule.len (x : Rule) : x.cells.length = 2 := rfl
theorem Rule.one (x : Rule) : ∀ u ∈ x.cells, u.oneCell' = true := by simp [Rule.cells, Value.oneCell']
theorem info_Rule : (Tryd.prog.info? 72).map (fun i => (i.zero, i.size, i.bytes)) = some (some (.agg #[.string ByteArray.empty, .int .i64 0]), 2, 24) := by kernel_rfl
def RuleR : Rep Rule := Rep.flat 2 Rule.cells Rule.len (fun x => x.Glob.size ≤ 9223372036854775807) 2 (fun k _ => ⟨markT k, ((k + 1 : Nat) : Int)⟩) (fun x => x.Glob.size)
theorem rd_Rule {w : World} {B : Nat} {cs : List Value} {x : Rule} (h : RuleR.Rd w B cs x) : cs = [.string x.Glob, .int .i64 x.Caps] ∧ x.Glob.size ≤ 9223372036854775807 := ⟨h.1, h.2⟩
theorem own_Rule {w : World} {S : Nat → Prop} {cs : List Value} {x : Rule} (h : RuleR.Own w S cs x) : cs = [.string x.Glob, .int .i64 x.Caps] ∧ x.Glob.size ≤ 9223372036854775807 := ⟨h.1, h.2⟩
theorem of_rd_Rule {w : World} {B : Nat} {x : Rule} (bGlob : x.Glob.size ≤ 9223372036854775807) : RuleR.Rd w B [.string x.Glob, .int .i64 x.Caps] x := ⟨rfl, bGlob⟩
theorem of_own_Rule {w : World} {S : Nat → Prop} {x : Rule} (bGlob : x.Glob.size ≤ 9223372036854775807) : RuleR.Own w S [.string x.Glob, .int .i64 x.Caps] x := ⟨rfl, bGlob⟩
theorem sz_Rule (x : Rule) : RuleR.sz x = x.Glob.size := rfl
set_option maxHeartbeats 400000 in
theorem sz2_Rule (cs : List Value) (x : Rule) (left : Int) (w : World) (h : RuleR.Rd w w.heap.size cs x) (h1 : -1 ≤ left) (h2 : left ≤ 1048576) :
    Calls Tryd.prog 51 #[.agg cs.toArray, .int .i64 left] w fun e w' => e = .returned (.int .i64 (leftOf left (RuleR.sz x))) ∧ Below w.heap.size w w' := by
  obtain ⟨rfl, bGlob⟩ := rd_Rule h
  rw [sz_Rule]
  by_cases hn : left - x.Glob.size < 0
  all_goals
    go_enter Tryd.func51, Tryd.ntmps51
    go_wp2
    go_ret
    exact ⟨ret_int (by unfold leftOf; split <;> omega), by (repeat (first | (with_reducible exact Below.refl _ _) | (with_reducible assumption) | ((with_reducible refine Below.setCell ?_ ?_ _); rotate_left; focus (first | omega | (simp; done) | (simp; omega))) | ((with_reducible refine Below.alloc ?_ ?_ _); rotate_left; focus (first | omega | (simp; done) | (simp; omega))) | (with_reducible refine Below.drew ?_) | (with_reducible refine below_drewN ?_ _) | (refine Below.trans ?_ (Below.mono (by with_reducible assumption) (by (first | omega | (simp; done) | (simp; omega)))))))⟩
set_option maxHeartbeats 400000 in
theorem to2_Rule (cs : List Value) (x : Rule) (w : World) (h : RuleR.Rd w w.heap.size cs x) (hm : RuleR.sz x ≤ 1048576) :
    Calls Tryd.prog 58 #[.agg cs.toArray] w fun e w' => ∃ cs', e = .returned (.agg cs'.toArray) ∧ RuleR.Own w' (InR w.heap.size w'.heap.size) cs' x ∧ Below w.heap.size w w' := by
  obtain ⟨rfl, bGlob⟩ := rd_Rule h
  go_enter Tryd.func58, Tryd.ntmps58
  go_wp2
  refine bodyPost_ret (v := .agg #[.string x.Glob, .int .i64 x.Caps]) (by simp [results, Tryd.results58, go_sem]) rfl ⟨[.string x.Glob, .int .i64 x.Caps], rfl, of_own_Rule bGlob, by (repeat (first | (with_reducible exact Below.refl _ _) | (with_reducible assumption) | ((with_reducible refine Below.setCell ?_ ?_ _); rotate_left; focus (first | omega | (simp; done) | (simp; omega))) | ((with_reducible refine Below.alloc ?_ ?_ _); rotate_left; focus (first | omega | (simp; done) | (simp; omega))) | (with_reducible refine Below.drew ?_) | (with_reducible refine below_drewN ?_ _) | (refine Below.trans ?_ (Below.mono (by with_reducible assumption) (by (first | omega | (simp; done) | (simp; omega)))))))⟩
set_option maxHeartbeats 800000 in
theorem eq2_Rule (cs cs' : List Value) (x y : Rule) (w : World) (h : RuleR.Rd w w.heap.size cs x) (h' : RuleR.Rd w w.heap.size cs' y) (m : RuleR.sz x ≤ 140737488351232) (m' : RuleR.sz y ≤ 140737488351232) :
    Calls Tryd.prog 64 #[.agg cs.toArray, .agg cs'.toArray] w fun e w' => e = .returned (.bool (decide (x = y))) ∧ Below w.heap.size w w' := by
  obtain ⟨rfl, bGlob⟩ := rd_Rule h
  obtain ⟨rfl, bGlob'⟩ := rd_Rule h'
  go_enter Tryd.func64, Tryd.ntmps64
  go_wp2
  all_goals (go_ret; exact ⟨ret_bool (by cases x; cases y; simp_all [bytes_ext]), by (repeat (first | (with_reducible exact Below.refl _ _) | (with_reducible assumption) | ((with_reducible refine Below.setCell ?_ ?_ _); rotate_left; focus (first | omega | (simp; done) | (simp; omega))) | ((with_reducible refine Below.alloc ?_ ?_ _); rotate_left; focus (first | omega | (simp; done) | (simp; omega))) | (with_reducible refine Below.drew ?_) | (with_reducible refine below_drewN ?_ _) | (refine Below.trans ?_ (Below.mono (by with_reducible assumption) (by (first | omega | (simp; done) | (simp; omega)))))))⟩)
theorem cnt_bd_RuleS (xs : List Rule) : cntList RuleR xs ≤ 16 * szList RuleR xs := by
  have h : cntList RuleR xs = 2 * xs.length := by
    unfold cntList; induction xs with
    | nil => rfl
    | cons x xs ih => rw [List.map_cons, List.sum_cons, ih, List.length_cons]; show 2 + _ = _; omega
  unfold szList; omega
set_option maxHeartbeats 1600000 in
theorem sz2_RuleS (v : Value) (xs : List Rule) (left : Int) (w : World) (h : SlRd RuleR w w.heap.size v xs) (h1 : -1 ≤ left) (h2 : left ≤ 1048576) :
    Calls Tryd.prog 34 #[v, .int .i64 left] w fun e w' => e = .returned (.int .i64 (leftOf left (szList RuleR xs))) ∧ Below w.heap.size w w' := by
  obtain ⟨A, c, rfl⟩ := h.form
  obtain ⟨hc1, hc2⟩ := h.caps
  generalize hn : xs.length = n at *
  have Hn := Lib.hid hn
  have HZ : Hid (szList RuleR xs = n + (xs.map RuleR.sz).sum) := Lib.hid (by unfold szList; rw [hn])
  clear hn
  have HTot : Hid (∀ k, ((xs.take k).map RuleR.sz).sum ≤ (xs.map RuleR.sz).sum) := Lib.hid (sum_take_le _ _)
  generalize hs : (xs.map RuleR.sz).sum = s at *
  have HS := Lib.hid hs
  clear hs
  go_enter Tryd.func34, Tryd.ntmps34
  by_cases h0 : left - n < 0
  · go_wp2
    go_ret
    exact ⟨ret_int (by rw [HZ.out]; unfold leftOf; rw [if_pos (by omega)]), Below.refl _ _⟩
  · go_wp2
    go_loopw [1, 5] (fun l i wr => ∃ (k q : Nat), k ≤ n ∧ i = .int .i64 k ∧ l = .int .i64 (left - n - (q : Int)) ∧ 0 ≤ left - n - (q : Int) ∧ Hid (q = ((xs.take k).map RuleR.sz).sum) ∧ Below w.heap.size w wr) (fun _ i _ => n - (intOf i).toNat)
    case atStart => exact ⟨0, 0, Nat.zero_le _, rfl, by simp, by simp; omega, rfl, Below.refl _ _⟩
    case round =>
      obtain ⟨k, q, hk, rfl, rfl, hq0, hq, hb⟩ := hrel
      have hzr := hb.size
      by_cases hlt : k < n
      · have hlx : k < xs.length := by rw [Hn.out]; exact hlt
        have hx := List.getElem?_eq_getElem hlx
        generalize xs[k]'hlx = x at hx
        obtain ⟨b, off, cs, rfl, hab, hrd, hcell⟩ := (h.below hb (Nat.le_refl _)).elem hx
        have HE := Lib.hid (szList_elem RuleR hx)
        have HX := Lib.hid hx
        have HT2 := HTot.out (k + 1)
        rw [HE.out, ← hq.out] at HT2
        clear hx
        have hrd2 := RuleR.rd_more hrd hzr
        obtain ⟨rfl, bGlobq⟩ := rd_Rule hrd
        have hc0_ : wr.cell? ⟨b, off + k * 2, none⟩ = some (.string x.Glob) := hcell 0 _ rfl
        have hc1_ : wr.cell? ⟨b, off + k * 2 + 1, none⟩ = some (.int .i64 x.Caps) := hcell 1 _ rfl
        clear hcell
        have HSz : Hid (RuleR.sz x = RuleR.sz x) := rfl
        go_wp2_with fail
        refine (sz2_Rule _ x _ _ (RuleR.rd_keep hrd2 (by (repeat (first | (with_reducible exact Below.refl _ _) | (with_reducible assumption) | ((with_reducible refine Below.setCell ?_ ?_ _); rotate_left; focus (first | omega | (simp; done) | (simp; omega))) | ((with_reducible refine Below.alloc ?_ ?_ _); rotate_left; focus (first | omega | (simp; done) | (simp; omega))) | (with_reducible refine Below.drew ?_) | (with_reducible refine below_drewN ?_ _) | (refine Below.trans ?_ (Below.mono (by with_reducible assumption) (by (first | omega | (simp; done) | (simp; omega)))))))) (by first | omega | (simp; done) | (simp; omega))) (by omega) (by omega)).mono ?_
        rintro e w1 ⟨rfl, hb1⟩
        generalize hsx : RuleR.sz x = sx at *
        have HSX := Lib.hid hsx
        clear hsx hrd hrd2
        by_cases hneg : left - n - (q : Int) - (sx : Int) < 0
        · have hl : leftOf (left - n - (q : Int)) sx = -1 := by unfold leftOf; rw [if_pos (by omega)]
          simp only [hl]
          clear hl
          go_wp2
          go_ret
          exact ⟨ret_int (by rw [HZ.out]; unfold leftOf; rw [if_pos (by omega)]), by (repeat (first | (with_reducible exact Below.refl _ _) | (with_reducible assumption) | ((with_reducible refine Below.setCell ?_ ?_ _); rotate_left; focus (first | omega | (simp; done) | (simp; omega))) | ((with_reducible refine Below.alloc ?_ ?_ _); rotate_left; focus (first | omega | (simp; done) | (simp; omega))) | (with_reducible refine Below.drew ?_) | (with_reducible refine below_drewN ?_ _) | (refine Below.trans ?_ (Below.mono (by with_reducible assumption) (by (first | omega | (simp; done) | (simp; omega)))))))⟩
        · have hl : leftOf (left - n - (q : Int)) sx = left - n - (q : Int) - sx := by unfold leftOf; rw [if_neg (by omega)]
          simp only [hl]
          clear hl
          go_wp2
          go_roundw
          case rel => exact ⟨k + 1, q + sx, by omega, by go_num, by go_num, by omega, Lib.hid (by first | rw [HE.out, hq.out, HSX.out] | rw [HE.out, hq.out]), by (repeat (first | (with_reducible exact Below.refl _ _) | (with_reducible assumption) | ((with_reducible refine Below.setCell ?_ ?_ _); rotate_left; focus (first | omega | (simp; done) | (simp; omega))) | ((with_reducible refine Below.alloc ?_ ?_ _); rotate_left; focus (first | omega | (simp; done) | (simp; omega))) | (with_reducible refine Below.drew ?_) | (with_reducible refine below_drewN ?_ _) | (refine Below.trans ?_ (Below.mono (by with_reducible assumption) (by (first | omega | (simp; done) | (simp; omega)))))))⟩
          case measure => simp [intOf]; omega
      · obtain rfl : k = n := by omega
        have hq2 := hq.out
        rw [List.take_of_length_le (by rw [Hn.out]; exact Nat.le_refl _), HS.out] at hq2
        subst hq2
        go_wp2
        go_ret
        exact ⟨ret_int (by rw [HZ.out]; unfold leftOf; rw [if_neg (by omega)]; omega), by (repeat (first | (with_reducible exact Below.refl _ _) | (with_reducible assumption) | ((with_reducible refine Below.setCell ?_ ?_ _); rotate_left; focus (first | omega | (simp; done) | (simp; omega))) | ((with_reducible refine Below.alloc ?_ ?_ _); rotate_left; focus (first | omega | (simp; done) | (simp; omega))) | (with_reducible refine Below.drew ?_) | (with_reducible refine below_drewN ?_ _) | (refine Below.trans ?_ (Below.mono (by with_reducible assumption) (by (first | omega | (simp; done) | (simp; omega)))))))⟩
set_option maxHeartbeats 3200000 in
theorem to2_RuleS (v : Value) (xs : List Rule) (w : World) (h : SlRd RuleR w w.heap.size v xs) (hm : szList RuleR xs ≤ 1048576) :
    Calls Tryd.prog 40 #[v] w fun e w' => ∃ v', e = .returned v' ∧ SlOwn RuleR 72 w' (InR w.heap.size w'.heap.size) v' xs ∧ Below w.heap.size w w' := by
  obtain ⟨i0, hi, hI0, hI1, hI2⟩ := info_parts info_Rule
  obtain ⟨A, c, rfl⟩ := h.form
  have hlen : xs.length ≤ 1048576 := Nat.le_trans (Nat.le_add_right _ _) hm
  have HE : Hid (∀ k x, xs[k]? = some x → RuleR.sz x ≤ 1048576) := Lib.hid (fun k x hx => Nat.le_trans (szList_one hx) hm)
  generalize hn : xs.length = n at *
  have Hn := Lib.hid hn
  clear hn
  go_enter Tryd.func40, Tryd.ntmps40
  go_wp2_with (first | (at_make; refine wpList_make_full _ rfl _ _ 53 rfl w.heap.size 72 i0 _ 2 Tryd.underlying53 hi hI0 hI1 .i64 .i64 _ _ n rfl rfl (by omega) (by omega) (by rw [hI2]; omega) (by unfold maxLen; omega) (Nat.le_refl _) ?_; intro w1 hown hg))
  have hb0 : Below w.heap.size w w1 := (Below.refl _ _).grown hg (Nat.le_refl _) (by simp)
  obtain ⟨css0, z1, z2, z3⟩ := Rows.of_any hown (by omega)
  replace z3 := z3.wide (T := fun g => g = w.heap.size) (fun g hg => by simpa [Value.ownBlock] using hg.symm)
  have hlt0 := own_lt hown _ rfl
  clear hown hg
  go_loopw [4] (fun i wr => ∃ (k : Nat) (css : List (List Value)) (Ss : List (Nat → Prop)), k ≤ n ∧ i = .int .i64 k ∧ Rows wr (fun g => g = w.heap.size) 72 2 (some ⟨w.heap.size, 0, none⟩) css ∧ Hid (css.length = n) ∧ Hid (∀ cs ∈ css, cs.length = 2) ∧ Built RuleR wr (w.heap.size + 1) Ss (css.take k) (xs.take k) ∧ Below w.heap.size w wr ∧ w.heap.size < wr.heap.size) (fun i _ => n - (intOf i).toNat)
  case atStart => exact ⟨0, css0, [], Nat.zero_le _, rfl, z3, z1, z2, Built.nil _ _ _, hb0, hlt0⟩
  case round =>
    obtain ⟨k, css, Ss, hk, rfl, hrw, hcl, hcm, hbt, hb, hzr⟩ := hrel
    clear hb0 hlt0 z1 z2 z3
    by_cases hlt : k < n
    · have hlx : k < xs.length := by rw [Hn.out]; exact hlt
      have hx := List.getElem?_eq_getElem hlx
      generalize xs[k]'hlx = x at hx
      obtain ⟨b, off, cs, rfl, hab, hrd, hcell⟩ := (h.below hb (Nat.le_refl _)).elem hx
      have HX := Lib.hid hx
      have hsz := HE.out k x hx
      clear hx
      have hrd2 := RuleR.rd_more hrd (by omega : w.heap.size ≤ wr.heap.size)
      obtain ⟨rfl, bGlobq⟩ := rd_Rule hrd
      have hc0_ : wr.cell? ⟨b, off + k * 2, none⟩ = some (.string x.Glob) := hcell 0 _ rfl
      have hc1_ : wr.cell? ⟨b, off + k * 2 + 1, none⟩ = some (.int .i64 x.Caps) := hcell 1 _ rfl
      clear hcell hrd
      go_wp2_with fail
      refine (to2_Rule _ x _ (RuleR.rd_keep hrd2 (by (repeat (first | (with_reducible exact Below.refl _ _) | (with_reducible assumption) | ((with_reducible refine Below.setCell ?_ ?_ _); rotate_left; focus (first | omega | (simp; done) | (simp; omega))) | ((with_reducible refine Below.alloc ?_ ?_ _); rotate_left; focus (first | omega | (simp; done) | (simp; omega))) | (with_reducible refine Below.drew ?_) | (with_reducible refine below_drewN ?_ _) | (refine Below.trans ?_ (Below.mono (by with_reducible assumption) (by (first | omega | (simp; done) | (simp; omega)))))))) (by first | omega | (simp; done) | (simp; omega))) hsz).mono ?_
      rintro e w2 ⟨_, rfl, ho2, hb2⟩
      have ho2' := ho2
      obtain ⟨rfl, bGlobp⟩ := own_Rule ho2
      have hkl : k < css.length := by rw [hcl.out]; exact hlt
      have hje := List.getElem?_eq_getElem hkl
      have hone := hcm.out _ (List.getElem_mem hkl)
      generalize css[k]'hkl = cs0 at hje hone
      obtain ⟨u0, u1, rfl⟩ : ∃ u0 u1, cs0 = [u0, u1] := by
        match cs0, hone with
        | [u0, u1], _ => exact ⟨u0, u1, rfl⟩
      have J0 := RowsJ.start (hrw.keep hb2) hcm.out hje
      obtain ⟨_, hgl, hat⟩ := J0.at_
      have hz2 := hb2.size
      have hd0_ : w2.cell? ⟨w.heap.size, k * 2, none⟩ = some u0 := by have := (hat 0 _ rfl).1; simpa only [Nat.zero_add, Nat.add_zero] using this
      have he0_ : w2.frozen? ⟨w.heap.size, k * 2, none⟩ = false := by have := (hat 0 _ rfl).2; simpa only [Nat.zero_add, Nat.add_zero] using this
      have hd1_ : w2.cell? ⟨w.heap.size, k * 2 + 1, none⟩ = some u1 := by have := (hat 1 _ rfl).1; simpa only [Nat.zero_add, Nat.add_zero] using this
      have he1_ : w2.frozen? ⟨w.heap.size, k * 2 + 1, none⟩ = false := by have := (hat 1 _ rfl).2; simpa only [Nat.zero_add, Nat.add_zero] using this
      clear hat hone
      have HJ := Lib.hid hje
      clear hje
      go_wp2
      go_roundw
      case rel =>
        have J1 := J0.set (i := 0) (by omega) (.string x.Glob)
        have J2 := J1.set (i := 1) (by omega) (.int .i64 x.Caps)
        simp only [Nat.zero_add, Nat.add_zero, List.set_cons_zero, List.set_cons_succ] at J2
        have hpre : ∀ s ∈ Ss, ∀ g, s g → w.heap.size + 1 ≤ g ∧ g < wr.heap.size := hbt.inn
        have hbx : Below wr.heap.size wr w2 := by (repeat (first | (with_reducible exact Below.refl _ _) | (with_reducible assumption) | ((with_reducible refine Below.setCell ?_ ?_ _); rotate_left; focus (first | omega | (simp; done) | (simp; omega))) | ((with_reducible refine Below.alloc ?_ ?_ _); rotate_left; focus (first | omega | (simp; done) | (simp; omega))) | (with_reducible refine Below.drew ?_) | (with_reducible refine below_drewN ?_ _) | (refine Below.trans ?_ (Below.mono (by with_reducible assumption) (by (first | omega | (simp; done) | (simp; omega)))))))
        have B1 := hbt.keep hbx
        have B2 := B1.setC (a := ⟨w.heap.size, k * 2, none⟩) (fun s hs hg => by have := (hpre s hs _ hg).1; simp at this; omega) (.string x.Glob)
        have B3 := B2.setC (a := ⟨w.heap.size, k * 2 + 1, none⟩) (fun s hs hg => by have := (hpre s hs _ hg).1; simp at this; omega) (.int .i64 x.Caps)
        have hOf : Out (Off wr.heap.size w2.heap.size) w2 ((w2.setCell ⟨w.heap.size, k * 2, none⟩ (.string x.Glob)).setCell ⟨w.heap.size, k * 2 + 1, none⟩ (.int .i64 x.Caps)) := by (repeat (first | (with_reducible exact Out.refl _ _) | (with_reducible assumption) | ((with_reducible refine Out.setCell ?_ ?_ _); rotate_left; focus (first | (refine Or.inl ?_; (first | omega | (simp; done) | (simp; omega))) | (refine Or.inr ?_; (first | omega | (simp; done) | (simp; omega))))) | (with_reducible refine Out.alloc ?_ _) | (with_reducible refine Out.drew ?_) | (with_reducible refine Out.drewN ?_ _) | (refine Out.step ?_ (by with_reducible assumption))))
        have hN := RuleR.own_off (RuleR.own_wide ho2' (inR_mono (lo' := wr.heap.size) (hi' := w2.heap.size) (by first | omega | (simp; done) | (simp; omega)) (by first | omega | (simp; done) | (simp; omega)))) hOf
        have B9 := B3.snoc hN (by omega) (by first | omega | (simp; done) | (simp; omega)) (fun s hs g hg => (hpre s hs g hg).2)
        refine ⟨k + 1, css.set k [.string x.Glob, .int .i64 x.Caps], Ss ++ [InR wr.heap.size w2.heap.size], by omega, by go_num, J2.rows, by rw [List.length_set]; exact hcl, Lib.hid J2.len'.2, ?_, by (repeat (first | (with_reducible exact Below.refl _ _) | (with_reducible assumption) | ((with_reducible refine Below.setCell ?_ ?_ _); rotate_left; focus (first | omega | (simp; done) | (simp; omega))) | ((with_reducible refine Below.alloc ?_ ?_ _); rotate_left; focus (first | omega | (simp; done) | (simp; omega))) | (with_reducible refine Below.drew ?_) | (with_reducible refine below_drewN ?_ _) | (refine Below.trans ?_ (Below.mono (by with_reducible assumption) (by (first | omega | (simp; done) | (simp; omega))))))), (by first | omega | (simp; done) | (simp; omega))⟩
        rw [take_snoc HX.out, List.take_succ_eq_append_getElem (by rw [List.length_set]; exact hkl), List.take_set_of_le (Nat.le_refl _), List.getElem_set_self]
        exact B9
      case measure => simp [intOf]; omega
    · obtain rfl : k = n := by omega
      have h1 : css.take k = css := List.take_of_length_le (by rw [hcl.out]; exact Nat.le_refl _)
      have h2 : xs.take k = xs := List.take_of_length_le (by rw [Hn.out]; exact Nat.le_refl _)
      rw [h1, h2] at hbt
      have H1 := Lib.hid h1
      have H2 := Lib.hid h2
      clear h1 h2
      go_wp2
      go_ret
      refine ⟨_, rfl, ?_, hb⟩
      have hf := hbt.own (S := InR w.heap.size wr.heap.size) (c := k) hrw (by rw [Hn.out]; exact Nat.le_refl _) (by omega) (fun g hg => by rw [hg]; exact ⟨Nat.le_refl _, hzr⟩) (fun s hs g hg => ⟨⟨by have := (hbt.inn s hs g hg).1; omega, (hbt.inn s hs g hg).2⟩, fun hg' => by have := (hbt.inn s hs g hg).1; omega⟩)
      rw [Hn.out] at hf
      exact hf
set_option maxHeartbeats 3200000 in
theorem eq2_RuleS (v v' : Value) (xs ys : List Rule) (w : World) (h : SlRd RuleR w w.heap.size v xs) (h' : SlRd RuleR w w.heap.size v' ys) (hm : szList RuleR xs ≤ 140737488351232) (hm' : szList RuleR ys ≤ 140737488351232) :
    Calls Tryd.prog 47 #[v, v'] w fun e w' => e = .returned (.bool (decide (xs = ys))) ∧ Below w.heap.size w w' := by
  obtain ⟨A, c, rfl⟩ := h.form
  obtain ⟨A', c', rfl⟩ := h'.form
  obtain ⟨hc1, hc2⟩ := h.caps
  obtain ⟨hc1', hc2'⟩ := h'.caps
  have HE : Hid (∀ k x, xs[k]? = some x → RuleR.sz x ≤ 140737488351232) := Lib.hid (fun k x hx => Nat.le_trans (szList_one hx) hm)
  have HE' : Hid (∀ k x, ys[k]? = some x → RuleR.sz x ≤ 140737488351232) := Lib.hid (fun k x hx => Nat.le_trans (szList_one hx) hm')
  clear hm hm'
  generalize hn : xs.length = n at *
  have Hn := Lib.hid hn
  clear hn
  generalize hn' : ys.length = n' at *
  have Hn' := Lib.hid hn'
  clear hn'
  by_cases hl : n = n'
  · subst hl
    go_enter Tryd.func47, Tryd.ntmps47
    go_wp2
    go_loopw [5] (fun i wr => ∃ k : Nat, k ≤ n ∧ i = .int .i64 k ∧ Below w.heap.size w wr ∧ Hid (xs.take k = ys.take k)) (fun i _ => n - (intOf i).toNat)
    case atStart => exact ⟨0, Nat.zero_le _, rfl, Below.refl _ _, rfl⟩
    case round =>
      obtain ⟨k, hk, rfl, hb, he⟩ := hrel
      have hzr := hb.size
      by_cases hlt : k < n
      · have hlx : k < xs.length := by rw [Hn.out]; exact hlt
        have hly : k < ys.length := by rw [Hn'.out]; exact hlt
        have hx := List.getElem?_eq_getElem hlx
        have hy := List.getElem?_eq_getElem hly
        generalize xs[k]'hlx = x at hx
        generalize ys[k]'hly = y at hy
        obtain ⟨b, off, cs, rfl, hab, hrd, hcell⟩ := h.elem hx
        obtain ⟨b', off', cs', rfl, hab', hrd', hcell'⟩ := h'.elem hy
        have hsx := HE.out k x hx
        have hsy := HE'.out k y hy
        have HX := Lib.hid hx
        have HY := Lib.hid hy
        clear hx hy
        have hrd2 := hrd
        have hrd2' := hrd'
        obtain ⟨rfl, bGlobq⟩ := rd_Rule hrd
        obtain ⟨rfl, bGlobp⟩ := rd_Rule hrd'
        have C := Lib.hid (fun (w' : World) (hb' : Below w.heap.size w w') (i : Nat) (u : Value) (hu : [.string x.Glob, .int .i64 x.Caps][i]? = some u) => (hb'.cell (p := ⟨b, off + (k * 2 + i), none⟩) hab).trans (hcell i u hu))
        have C' := Lib.hid (fun (w' : World) (hb' : Below w.heap.size w w') (i : Nat) (u : Value) (hu : [.string y.Glob, .int .i64 y.Caps][i]? = some u) => (hb'.cell (p := ⟨b', off' + (k * 2 + i), none⟩) hab').trans (hcell' i u hu))
        clear hcell hcell' hrd hrd'
        go_wp2
        go_region_held3 (fun w' => w'.cell? ⟨b, off + k * 2, none⟩ = some (.string x.Glob) ∧ w'.cell? ⟨b, off + k * 2 + 1, none⟩ = some (.int .i64 x.Caps) ∧ w'.cell? ⟨b', off' + k * 2, none⟩ = some (.string y.Glob) ∧ w'.cell? ⟨b', off' + k * 2 + 1, none⟩ = some (.int .i64 y.Caps))
          (first | exact ⟨C.out _ (by (repeat (first | (with_reducible exact Below.refl _ _) | (with_reducible assumption) | ((with_reducible refine Below.setCell ?_ ?_ _); rotate_left; focus (first | omega | (simp; done) | (simp; omega))) | ((with_reducible refine Below.alloc ?_ ?_ _); rotate_left; focus (first | omega | (simp; done) | (simp; omega))) | (with_reducible refine Below.drew ?_) | (with_reducible refine below_drewN ?_ _) | (refine Below.trans ?_ (Below.mono (by with_reducible assumption) (by (first | omega | (simp; done) | (simp; omega)))))))) 0 _ rfl, C.out _ (by (repeat (first | (with_reducible exact Below.refl _ _) | (with_reducible assumption) | ((with_reducible refine Below.setCell ?_ ?_ _); rotate_left; focus (first | omega | (simp; done) | (simp; omega))) | ((with_reducible refine Below.alloc ?_ ?_ _); rotate_left; focus (first | omega | (simp; done) | (simp; omega))) | (with_reducible refine Below.drew ?_) | (with_reducible refine below_drewN ?_ _) | (refine Below.trans ?_ (Below.mono (by with_reducible assumption) (by (first | omega | (simp; done) | (simp; omega)))))))) 1 _ rfl, C'.out _ (by (repeat (first | (with_reducible exact Below.refl _ _) | (with_reducible assumption) | ((with_reducible refine Below.setCell ?_ ?_ _); rotate_left; focus (first | omega | (simp; done) | (simp; omega))) | ((with_reducible refine Below.alloc ?_ ?_ _); rotate_left; focus (first | omega | (simp; done) | (simp; omega))) | (with_reducible refine Below.drew ?_) | (with_reducible refine below_drewN ?_ _) | (refine Below.trans ?_ (Below.mono (by with_reducible assumption) (by (first | omega | (simp; done) | (simp; omega)))))))) 0 _ rfl, C'.out _ (by (repeat (first | (with_reducible exact Below.refl _ _) | (with_reducible assumption) | ((with_reducible refine Below.setCell ?_ ?_ _); rotate_left; focus (first | omega | (simp; done) | (simp; omega))) | ((with_reducible refine Below.alloc ?_ ?_ _); rotate_left; focus (first | omega | (simp; done) | (simp; omega))) | (with_reducible refine Below.drew ?_) | (with_reducible refine below_drewN ?_ _) | (refine Below.trans ?_ (Below.mono (by with_reducible assumption) (by (first | omega | (simp; done) | (simp; omega)))))))) 1 _ rfl⟩)
          (first | (go_at_call 64; refine (eq2_Rule _ _ x y _ (RuleR.rd_keep hrd2 (by (repeat (first | (with_reducible exact Below.refl _ _) | (with_reducible assumption) | ((with_reducible refine Below.setCell ?_ ?_ _); rotate_left; focus (first | omega | (simp; done) | (simp; omega))) | ((with_reducible refine Below.alloc ?_ ?_ _); rotate_left; focus (first | omega | (simp; done) | (simp; omega))) | (with_reducible refine Below.drew ?_) | (with_reducible refine below_drewN ?_ _) | (refine Below.trans ?_ (Below.mono (by with_reducible assumption) (by (first | omega | (simp; done) | (simp; omega)))))))) (by first | omega | (simp; done) | (simp; omega))) (RuleR.rd_keep hrd2' (by (repeat (first | (with_reducible exact Below.refl _ _) | (with_reducible assumption) | ((with_reducible refine Below.setCell ?_ ?_ _); rotate_left; focus (first | omega | (simp; done) | (simp; omega))) | ((with_reducible refine Below.alloc ?_ ?_ _); rotate_left; focus (first | omega | (simp; done) | (simp; omega))) | (with_reducible refine Below.drew ?_) | (with_reducible refine below_drewN ?_ _) | (refine Below.trans ?_ (Below.mono (by with_reducible assumption) (by (first | omega | (simp; done) | (simp; omega)))))))) (by first | omega | (simp; done) | (simp; omega))) hsx hsy).mono ?_; rintro e w2 ⟨rfl, hb2⟩))
        go_wp2
        · have hst : (!decide (x = y)) = true := by assumption
          go_ret
          exact ⟨ret_bool (ne_of_at HX.out HY.out (by simpa using hst)).symm, by (repeat (first | (with_reducible exact Below.refl _ _) | (with_reducible assumption) | ((with_reducible refine Below.setCell ?_ ?_ _); rotate_left; focus (first | omega | (simp; done) | (simp; omega))) | ((with_reducible refine Below.alloc ?_ ?_ _); rotate_left; focus (first | omega | (simp; done) | (simp; omega))) | (with_reducible refine Below.drew ?_) | (with_reducible refine below_drewN ?_ _) | (refine Below.trans ?_ (Below.mono (by with_reducible assumption) (by (first | omega | (simp; done) | (simp; omega)))))))⟩
        · have hst : (!decide (x = y)) = false := by assumption
          go_roundw
          case rel => exact ⟨k + 1, by omega, by go_num, by (repeat (first | (with_reducible exact Below.refl _ _) | (with_reducible assumption) | ((with_reducible refine Below.setCell ?_ ?_ _); rotate_left; focus (first | omega | (simp; done) | (simp; omega))) | ((with_reducible refine Below.alloc ?_ ?_ _); rotate_left; focus (first | omega | (simp; done) | (simp; omega))) | (with_reducible refine Below.drew ?_) | (with_reducible refine below_drewN ?_ _) | (refine Below.trans ?_ (Below.mono (by with_reducible assumption) (by (first | omega | (simp; done) | (simp; omega))))))), take_step he.out HX.out HY.out (by simpa using hst)⟩
          case measure => simp [intOf]; omega
      · obtain rfl : k = n := by omega
        go_wp2
        go_ret
        exact ⟨ret_bool (by simp [eq_of_take he.out Hn.out Hn'.out]), by (repeat (first | (with_reducible exact Below.refl _ _) | (with_reducible assumption) | ((with_reducible refine Below.setCell ?_ ?_ _); rotate_left; focus (first | omega | (simp; done) | (simp; omega))) | ((with_reducible refine Below.alloc ?_ ?_ _); rotate_left; focus (first | omega | (simp; done) | (simp; omega))) | (with_reducible refine Below.drew ?_) | (with_reducible refine below_drewN ?_ _) | (refine Below.trans ?_ (Below.mono (by with_reducible assumption) (by (first | omega | (simp; done) | (simp; omega)))))))⟩
  · go_enter Tryd.func47, Tryd.ntmps47
    have hb : ((n : Int) != n') = true := by simp; omega
    go_wp2
    go_ret
    exact ⟨ret_bool (ne_of_len Hn.out Hn'.out hl).symm, Below.refl _ _⟩
theorem cnt1_Rule (x : Rule) (k : Nat) : k + RuleR.cnt x = k + 1 + 1 := by
  rfl
theorem mark1_Rule (x : Rule) (k : Nat) : RuleR.mark k x = ⟨markT (k), ((k + 1 : Nat) : Int)⟩ := rfl
set_option maxHeartbeats 6400000 in
theorem mark2_RuleS (v : Value) (xs : List Rule) (S : Nat → Prop) (k : Nat) (w : World) (h : SlOwn RuleR 72 w S v xs) (hm : szList RuleR xs ≤ 2097152) (hS : ∀ g, S g → g < w.heap.size) (h0 : 0 < k) (hk : k ≤ 100000000) :
    Calls Tryd.prog 31 #[v, .int .i64 k] w fun e w' => e = .returned (.int .i64 ((k + cntList RuleR xs : Nat) : Int)) ∧ SlOwn RuleR 72 w' S v (mkList RuleR k xs) ∧ Out S w w' := by
  have hcb : cntList RuleR xs ≤ 35000000 := by have := cnt_bd_RuleS xs; omega
  obtain ⟨A, c, css0, S0, Ss, rfl, hc1, hc2, hrw, hall, hS0, hSs, hpw⟩ := h
  have HT : Hid (∀ j x, xs[j]? = some x → cntList RuleR (xs.take j) + RuleR.cnt x ≤ cntList RuleR xs) := Lib.hid (fun j x hx => by rw [← cntList_snoc RuleR hx]; exact sum_take_le _ _ _)
  have HSz : Hid (∀ j x, xs[j]? = some x → RuleR.sz x ≤ 2097152) := Lib.hid (fun j x hx => Nat.le_trans (szList_one hx) hm)
  have HF : Hid (∀ (w' : World) (css : List (List Value)), Rows w' S0 72 2 A css → OwnAll RuleR w' Ss css (mkList RuleR k xs) → SlOwn RuleR 72 w' S (.slice A xs.length c) (mkList RuleR k xs)) := Lib.hid (fun w' css a b => ⟨A, c, css, S0, Ss, by rw [mkList_len], by rw [mkList_len]; exact hc1, hc2, a, b, hS0, hSs, hpw⟩)
  have HP : Hid (∀ i j (s u : Nat → Prop), i ≠ j → Ss[i]? = some s → Ss[j]? = some u → ∀ g, s g → ¬ u g) := Lib.hid (fun i j s u hij hi hj => pairwise_get hpw (fun a b hab g hg hg' => hab g hg' hg) hij hi hj)
  have HA : Hid (∀ i (s : Nat → Prop), Ss[i]? = some s → ∀ g, s g → S g ∧ ¬ S0 g) := Lib.hid (fun i s hi => hSs s (List.mem_of_getElem? hi))
  have hall0 : OwnAll RuleR w Ss css0 (mkTo RuleR k xs 0) := by rw [mkTo_zero]; exact hall
  have HL : Hid (Ss.length = xs.length) := Lib.hid hall.2.1
  generalize hn : xs.length = n at *
  have Hn := Lib.hid hn
  generalize hN : cntList RuleR xs = N at *
  have HN := Lib.hid hN
  clear hn hN hm hall hpw hSs
  go_enter Tryd.func31, Tryd.ntmps31
  go_wp2
  go_loopw [1, 5] (fun kk i wr => ∃ (j q : Nat) (css : List (List Value)), j ≤ n ∧ i = .int .i64 j ∧ kk = .int .i64 ((k : Int) + (q : Int)) ∧ Hid (q = cntList RuleR (xs.take j)) ∧ Rows wr S0 72 2 A css ∧ OwnAll RuleR wr Ss css (mkTo RuleR k xs j) ∧ Out S w wr) (fun _ i _ => n - (intOf i).toNat)
  case atStart => exact ⟨0, 0, css0, Nat.zero_le _, rfl, by simp, rfl, hrw, hall0, Out.refl _ _⟩
  case round =>
    clear hrw hall0
    obtain ⟨j, q, css, hj, rfl, rfl, hq, hrw, hall, ho⟩ := hrel
    have hzr := ho.size
    by_cases hlt : j < n
    · have hlx : j < xs.length := by rw [Hn.out]; exact hlt
      have hx := List.getElem?_eq_getElem hlx
      generalize xs[j]'hlx = x at hx
      have hqb := HT.out j x hx
      have hsz := HSz.out j x hx
      rw [← hq.out] at hqb
      have hy := mkTo_get RuleR k hx
      have hcl : css.length = xs.length := by rw [hall.1, mkTo_len _ _ _ _ (Nat.le_of_lt hlx)]
      have hsl := HL.out
      have hnx := Hn.out
      have hje := List.getElem?_eq_getElem (l := css) (i := j) (by omega)
      have hse := List.getElem?_eq_getElem (l := Ss) (i := j) (by omega)
      generalize css[j]'(by omega) = cs at hje
      generalize Ss[j]'(by omega) = Sj at hse
      have hown := hall.2.2 j Sj cs x hse hje hy
      obtain ⟨g, off, rfl⟩ := hrw.addr (by omega)
      have hlens : ∀ cs ∈ css, cs.length = 2 := fun cs' hcs => by
        obtain ⟨i, hi, rfl⟩ := List.mem_iff_getElem.1 hcs
        have hi1 : i < Ss.length := by omega
        have hi2 : i < (mkTo RuleR k xs j).length := by rw [← hall.1]; exact hi
        exact RuleR.own_len (hall.2.2 i _ _ _ (List.getElem?_eq_getElem hi1) (List.getElem?_eq_getElem hi) (List.getElem?_eq_getElem hi2))
      have HX := Lib.hid hx
      have HJE := Lib.hid hje
      have HSE := Lib.hid hse
      have HCL := Lib.hid hcl
      have J0 := RowsJ.start hrw hlens hje
      have HAj := HA.out j Sj hse
      clear hx hje hse hcl hy hnx hsl
      obtain ⟨rfl, bGlob⟩ := own_Rule hown
      obtain ⟨hSg, hgl, hat⟩ := J0.at_
      have hgS : S g := hS0 g hSg
      have hgw : g < w.heap.size := hS g hgS
      have hd0_ : wr.cell? ⟨g, off + j * 2, none⟩ = some (.string x.Glob) := (hat 0 _ rfl).1
      have he0_ : wr.frozen? ⟨g, off + j * 2, none⟩ = false := (hat 0 _ rfl).2
      have hd1_ : wr.cell? ⟨g, off + j * 2 + 1, none⟩ = some (.int .i64 x.Caps) := (hat 1 _ rfl).1
      have he1_ : wr.frozen? ⟨g, off + j * 2 + 1, none⟩ = false := (hat 1 _ rfl).2
      clear hat
      have hOr : Out (fun z => z = g ∨ Sj z) wr wr := Out.refl _ _
      rw [show q + RuleR.cnt x = q + 1 + 1 from cnt1_Rule x q] at hqb
      go_wp2_with fail
      refine (Calls.cast (by push_cast; rfl) (laws_markText (k + q) _ (by omega) (by omega))).mono ?_
      rintro e w1 ⟨rfl, hb1⟩
      have hz1 := hb1.size
      replace hOr := hOr.step hb1
      have J1 := J0.keep hb1
      obtain ⟨_, hgl1, hat⟩ := J1.at_
      have hd0_ : w1.cell? ⟨g, off + j * 2, none⟩ = some (.string x.Glob) := (hat 0 _ rfl).1
      have he0_ : w1.frozen? ⟨g, off + j * 2, none⟩ = false := (hat 0 _ rfl).2
      have hd1_ : w1.cell? ⟨g, off + j * 2 + 1, none⟩ = some (.int .i64 x.Caps) := (hat 1 _ rfl).1
      have he1_ : w1.frozen? ⟨g, off + j * 2 + 1, none⟩ = false := (hat 1 _ rfl).2
      clear hat
      go_wp2
      have J2 : RowsJ (w1.setCell ⟨g, off + j * 2, none⟩ (.string (markT (k + q)))) S0 72 2 (some ⟨g, off, none⟩) css j [.string (markT (k + q)), .int .i64 x.Caps] := J1.set (i := 0) (by omega) (.string (markT (k + q)))
      replace hOr : Out (fun z => z = g ∨ Sj z) wr (w1.setCell ⟨g, off + j * 2, none⟩ (.string (markT (k + q)))) := hOr.setCell (p := ⟨g, off + j * 2, none⟩) (Or.inl rfl) _
      have J3 : RowsJ ((w1.setCell ⟨g, off + j * 2, none⟩ (.string (markT (k + q)))).setCell ⟨g, off + j * 2 + 1, none⟩ (.int .i64 ((k : Int) + (q : Int) + 1))) S0 72 2 (some ⟨g, off, none⟩) css j [.string (markT (k + q)), .int .i64 ((k : Int) + (q : Int) + 1)] := J2.set (i := 1) (by omega) (.int .i64 ((k : Int) + (q : Int) + 1))
      replace hOr : Out (fun z => z = g ∨ Sj z) wr ((w1.setCell ⟨g, off + j * 2, none⟩ (.string (markT (k + q)))).setCell ⟨g, off + j * 2 + 1, none⟩ (.int .i64 ((k : Int) + (q : Int) + 1))) := hOr.setCell (p := ⟨g, off + j * 2 + 1, none⟩) (Or.inl rfl) _
      have hcs : ([.string (markT (k + q)), .int .i64 ((k : Int) + (q : Int) + 1)] : List Value) = [.string (markT (k + q)), .int .i64 ((k + q + 1 : Nat) : Int)] := by push_cast; rfl
      rw [hcs] at J3
      have hN : RuleR.Own ((w1.setCell ⟨g, off + j * 2, none⟩ (.string (markT (k + q)))).setCell ⟨g, off + j * 2 + 1, none⟩ (.int .i64 ((k : Int) + (q : Int) + 1))) Sj [.string (markT (k + q)), .int .i64 ((k + q + 1 : Nat) : Int)] (RuleR.mark (k + q) x) := by rw [mark1_Rule]; exact of_own_Rule (x := ⟨markT ((k + q)), (((k + q) + 1 : Nat) : Int)⟩) (Nat.le_trans (markT_size _) (by omega))
      go_roundw
      case rel =>
        refine ⟨j + 1, q + RuleR.cnt x, css.set j [.string (markT (k + q)), .int .i64 ((k + q + 1 : Nat) : Int)], by omega, by go_num, ?_, Lib.hid (by rw [cntList_snoc RuleR HX.out, hq.out]), J3.rows, ?_, ho.trans (hOr.wide (fun z hz => by rcases hz with hz | hz; exact hz ▸ hgS; exact (HAj z hz).1))⟩
        · have h1 := cnt1_Rule x q
          have h2 : ((q + RuleR.cnt x : Nat) : Int) = ((q + 1 + 1 : Nat) : Int) := by rw [h1]
          push_cast at h2 ⊢
          first | (rw [h2]; simp only [Int.add_assoc]) | (congr 1; omega)
        · rw [mkTo_succ RuleR k HX.out, ← hq.out]
          refine hall.set HSE.out hOr (fun i s hij hi z hz hz' => ?_) hN
          rcases hz' with hz' | hz'
          · exact (HA.out i s hi z hz).2 (hz' ▸ hSg)
          · exact HP.out i j s Sj hij hi HSE.out z hz hz'
      case measure => simp [intOf]; omega
    · obtain rfl : j = n := by omega
      have hq2 := hq.out
      rw [List.take_of_length_le (by rw [Hn.out]; exact Nat.le_refl _), HN.out] at hq2
      subst hq2
      have hall2 : OwnAll RuleR wr Ss css (mkList RuleR k xs) := by rw [← mkTo_all, Hn.out]; exact hall
      go_wp2
      go_ret
      exact ⟨by first | rfl | (push_cast; rfl), HF.out _ _ hrw hall2, ho⟩
set_option maxHeartbeats 6400000 in
theorem held2_RuleS (v : Value) (xs : List Rule) (k : Nat) (w : World) (h : SlRd RuleR w w.heap.size v (mkList RuleR k xs)) (hm : szList RuleR xs ≤ 2097152) (h0 : 0 < k) (hk : k ≤ 100000000) :
    Calls Tryd.prog 32 #[v, .int .i64 k] w fun e w' => e = .returned (.int .i64 ((k + cntList RuleR xs : Nat) : Int)) ∧ Below w.heap.size w w' := by
  have hcb : cntList RuleR xs ≤ 35000000 := by have := cnt_bd_RuleS xs; omega
  obtain ⟨A, c, rfl⟩ := h.form
  have hlen : xs.length ≤ 2097152 := Nat.le_trans (Nat.le_add_right _ _) hm
  have HT : Hid (∀ j x, xs[j]? = some x → cntList RuleR (xs.take j) + RuleR.cnt x ≤ cntList RuleR xs) := Lib.hid (fun j x hx => by rw [← cntList_snoc RuleR hx]; exact sum_take_le _ _ _)
  have HSz : Hid (∀ j x, xs[j]? = some x → RuleR.sz x ≤ 2097152) := Lib.hid (fun j x hx => Nat.le_trans (szList_one hx) hm)
  have HM : Hid (∀ j x, xs[j]? = some x → (mkList RuleR k xs)[j]? = some (RuleR.mark (k + cntList RuleR (xs.take j)) x)) := Lib.hid (fun j x hx => mkList_get RuleR k xs j x hx)
  rw [mkList_len] at h ⊢
  generalize hn : xs.length = n at *
  have Hn := Lib.hid hn
  generalize hN : cntList RuleR xs = N at *
  have HN := Lib.hid hN
  clear hn hN hm
  go_enter Tryd.func32, Tryd.ntmps32
  go_wp2
  go_loopw [1, 5] (fun kk i wr => ∃ (j q : Nat), j ≤ n ∧ i = .int .i64 j ∧ kk = .int .i64 ((k : Int) + (q : Int)) ∧ Hid (q = cntList RuleR (xs.take j)) ∧ Below w.heap.size w wr) (fun _ i _ => n - (intOf i).toNat)
  case atStart => exact ⟨0, 0, Nat.zero_le _, rfl, by simp, rfl, Below.refl _ _⟩
  case round =>
    obtain ⟨j, q, hj, rfl, rfl, hq, hb⟩ := hrel
    have hzr := hb.size
    by_cases hlt : j < n
    · have hlx : j < xs.length := by rw [Hn.out]; exact hlt
      have hx := List.getElem?_eq_getElem hlx
      generalize xs[j]'hlx = x at hx
      have hqb := HT.out j x hx
      have hsz := HSz.out j x hx
      have hmx := HM.out j x hx
      rw [← hq.out] at hqb hmx
      have HX := Lib.hid hx
      clear hx
      obtain ⟨b, off, cs, rfl, hab, hrd, hcell⟩ := h.elem hmx
      rw [mark1_Rule] at hrd
      rw [show q + RuleR.cnt x = q + 1 + 1 from cnt1_Rule x q] at hqb
      clear hmx
      obtain ⟨rfl, bGlob⟩ := rd_Rule hrd
      have C := Lib.hid (fun (w' : World) (hb' : Below w.heap.size w w') (i : Nat) (u : Value) (hu : [.string (markT (k + q)), .int .i64 ((k : Int) + (q : Int) + 1)][i]? = some u) => (hb'.cell (p := ⟨b, off + (j * 2 + i), none⟩) hab).trans (hcell i u (by push_cast; exact hu)))
      clear hcell
      have hd0_ : wr.cell? ⟨b, off + j * 2, none⟩ = some (.string (markT (k + q))) := C.out _ hb 0 _ rfl
      have hd1_ : wr.cell? ⟨b, off + j * 2 + 1, none⟩ = some (.int .i64 ((k : Int) + (q : Int) + 1)) := C.out _ hb 1 _ rfl
      have HC1 := Lib.hid (fun w' => Calls.cast (args' := #[.int .i64 ((k : Int) + (q : Int))]) (by push_cast; rfl) (laws_markText (k + q) w' (by omega) (by omega)))
      generalize hT1 : markT (k + q) = T1 at *
      clear hT1
      go_wp2
      go_region_held3 (fun w' => w'.cell? ⟨b, off + j * 2, none⟩ = some (.string T1))
        (first | exact C.out _ (by (repeat (first | (with_reducible exact Below.refl _ _) | (with_reducible assumption) | ((with_reducible refine Below.setCell ?_ ?_ _); rotate_left; focus (first | omega | (simp; done) | (simp; omega))) | ((with_reducible refine Below.alloc ?_ ?_ _); rotate_left; focus (first | omega | (simp; done) | (simp; omega))) | (with_reducible refine Below.drew ?_) | (with_reducible refine below_drewN ?_ _) | (refine Below.trans ?_ (Below.mono (by with_reducible assumption) (by (first | omega | (simp; done) | (simp; omega)))))))) 0 _ rfl)
        (first | (go_at_call 30; ((with_reducible refine (HC1.out _).mono ?_)); rintro e w1 ⟨rfl, hb1⟩; have hz1 := hb1.size; try simp at hz1))
      have hbw1 : Below w.heap.size w w1 := by (repeat (first | (with_reducible exact Below.refl _ _) | (with_reducible assumption) | ((with_reducible refine Below.setCell ?_ ?_ _); rotate_left; focus (first | omega | (simp; done) | (simp; omega))) | ((with_reducible refine Below.alloc ?_ ?_ _); rotate_left; focus (first | omega | (simp; done) | (simp; omega))) | (with_reducible refine Below.drew ?_) | (with_reducible refine below_drewN ?_ _) | (refine Below.trans ?_ (Below.mono (by with_reducible assumption) (by (first | omega | (simp; done) | (simp; omega)))))))
      have hd1_ : w1.cell? ⟨b, off + j * 2 + 1, none⟩ = some (.int .i64 ((k : Int) + (q : Int) + 1)) := C.out _ hbw1 1 _ rfl
      go_wp2
      go_roundw
      case rel =>
        refine ⟨j + 1, q + RuleR.cnt x, by omega, by go_num, ?_, Lib.hid (by rw [cntList_snoc RuleR HX.out, hq.out]), by (repeat (first | (with_reducible exact Below.refl _ _) | (with_reducible assumption) | ((with_reducible refine Below.setCell ?_ ?_ _); rotate_left; focus (first | omega | (simp; done) | (simp; omega))) | ((with_reducible refine Below.alloc ?_ ?_ _); rotate_left; focus (first | omega | (simp; done) | (simp; omega))) | (with_reducible refine Below.drew ?_) | (with_reducible refine below_drewN ?_ _) | (refine Below.trans ?_ (Below.mono (by with_reducible assumption) (by (first | omega | (simp; done) | (simp; omega)))))))⟩
        have h1 := cnt1_Rule x q
        have h2 : ((q + RuleR.cnt x : Nat) : Int) = ((q + 1 + 1 : Nat) : Int) := by rw [h1]
        push_cast at h2 ⊢
        first | (rw [h2]; simp only [Int.add_assoc]) | (congr 1; omega)
      case measure => simp [intOf]; omega
    · obtain rfl : j = n := by omega
      have hq2 := hq.out
      rw [List.take_of_length_le (by rw [Hn.out]; exact Nat.le_refl _), HN.out] at hq2
      subst hq2
      go_wp2
      go_ret
      exact ⟨by first | rfl | (push_cast; rfl), hb⟩
end Go.Proofs.YtoijmnnjcoogkaaDoor
namespace Go.Proofs.YtoijmnnjcoogkaaDoor
open Go.RowKit
structure Policy where
  Name : ByteArray
  Rules : List Rule
  deriving DecidableEq
def PolicyR : Rep Policy := (Rep.pair strR (RuleR.sl 72)).as (fun x => (x.Name, x.Rules)) (fun p => ⟨p.1, p.2⟩)
theorem rd_Policy {w : World} {B : Nat} {cs : List Value} {x : Policy} (h : PolicyR.Rd w B cs x) : ∃ v0, cs = [.string x.Name, v0] ∧ SlRd RuleR w B v0 x.Rules ∧ x.Name.size ≤ 9223372036854775807 := by
  obtain ⟨_, _, rfl, ⟨rfl, bName⟩, ⟨v0, rfl, h0⟩⟩ := h
  exact ⟨v0, rfl, h0, bName⟩
theorem of_rd_Policy {w : World} {B : Nat} {x : Policy} {v0 : Value} (h0 : SlRd RuleR w B v0 x.Rules) (bName : x.Name.size ≤ 9223372036854775807) : PolicyR.Rd w B [.string x.Name, v0] x := ⟨[_], _, rfl, ⟨rfl, bName⟩, ⟨_, rfl, h0⟩⟩
theorem own_Policy {w : World} {S : Nat → Prop} {cs : List Value} {x : Policy} (h : PolicyR.Own w S cs x) : ∃ v0, ∃ S0 : Nat → Prop, cs = [.string x.Name, v0] ∧ SlOwn RuleR 72 w S0 v0 x.Rules ∧ (∀ g, S0 g → S g) ∧ x.Name.size ≤ 9223372036854775807 := by
  obtain ⟨_, _, U0, T0, rfl, ⟨rfl, bName⟩, ⟨v0, rfl, h0⟩, a0, d0⟩ := h
  exact ⟨v0, T0, rfl, h0, (fun g hg => (d0 g hg)), bName⟩
theorem of_own_Policy {w : World} {S : Nat → Prop} {x : Policy} {v0 : Value} {S0 : Nat → Prop} (h0 : SlOwn RuleR 72 w S0 v0 x.Rules) (s0 : ∀ g, S0 g → S g) (bName : x.Name.size ≤ 9223372036854775807) : PolicyR.Own w S [.string x.Name, v0] x := ⟨[_], _, fun _ => False, S, rfl, ⟨rfl, bName⟩, ⟨_, rfl, h0.wide s0⟩, (fun g hg => hg.elim), (fun g hg => hg)⟩
theorem sz_Policy (x : Policy) : PolicyR.sz x = x.Name.size + szList RuleR x.Rules := by simp [PolicyR, Rep.as, Rep.pair, Rep.sl, intR, Rep.flat, strR]
set_option maxHeartbeats 800000 in
theorem sz2_Policy (cs : List Value) (x : Policy) (left : Int) (w : World) (h : PolicyR.Rd w w.heap.size cs x) (h1 : -1 ≤ left) (h2 : left ≤ 1048576) :
    Calls Tryd.prog 16 #[.agg cs.toArray, .int .i64 left] w fun e w' => e = .returned (.int .i64 (leftOf left (PolicyR.sz x))) ∧ Below w.heap.size w w' := by
  obtain ⟨v0, rfl, q0, bName⟩ := rd_Policy h
  rw [sz_Policy]
  obtain ⟨A0, c0, rfl⟩ := q0.form
  by_cases hn : left - x.Name.size < 0
  · go_enter Tryd.func16, Tryd.ntmps16
    go_wp2
    go_ret
    exact ⟨ret_int (by unfold leftOf; split <;> omega), by (repeat (first | (with_reducible exact Below.refl _ _) | (with_reducible assumption) | ((with_reducible refine Below.setCell ?_ ?_ _); rotate_left; focus (first | omega | (simp; done) | (simp; omega))) | ((with_reducible refine Below.alloc ?_ ?_ _); rotate_left; focus (first | omega | (simp; done) | (simp; omega))) | (with_reducible refine Below.drew ?_) | (with_reducible refine below_drewN ?_ _) | (refine Below.trans ?_ (Below.mono (by with_reducible assumption) (by (first | omega | (simp; done) | (simp; omega)))))))⟩
  have hn2 : 0 ≤ left - x.Name.size := by omega
  have hadd : ∀ m : Nat, leftOf (left - x.Name.size) m = leftOf left (x.Name.size + m) := fun m => by unfold leftOf; split <;> split <;> omega
  have HAdd := Lib.hid (hadd (szList RuleR x.Rules))
  clear hadd
  go_enter Tryd.func16, Tryd.ntmps16
  go_wp2_with fail
  refine (sz2_RuleS _ _ _ _ (q0.keep (by (repeat (first | (with_reducible exact Below.refl _ _) | (with_reducible assumption) | ((with_reducible refine Below.setCell ?_ ?_ _); rotate_left; focus (first | omega | (simp; done) | (simp; omega))) | ((with_reducible refine Below.alloc ?_ ?_ _); rotate_left; focus (first | omega | (simp; done) | (simp; omega))) | (with_reducible refine Below.drew ?_) | (with_reducible refine below_drewN ?_ _) | (refine Below.trans ?_ (Below.mono (by with_reducible assumption) (by (first | omega | (simp; done) | (simp; omega)))))))) (by first | omega | (simp; done) | (simp; omega))) (by omega) (by omega)).mono ?_
  rintro e w1 ⟨rfl, hb1⟩
  have hz1 := hb1.size; try simp at hz1
  obtain ⟨hc10, hf10⟩ := box hb1 (w.heap.size) (by first | omega | (simp; done) | (simp; omega))
  rw [HAdd.out]
  by_cases n0 : leftOf left (x.Name.size + szList RuleR x.Rules) < 0
  · go_wp2
    go_ret
    exact ⟨ret_int (by rw [← Nat.add_zero (x.Name.size + szList RuleR x.Rules)]; exact (leftOf_neg n0).symm), by (repeat (first | (with_reducible exact Below.refl _ _) | (with_reducible assumption) | ((with_reducible refine Below.setCell ?_ ?_ _); rotate_left; focus (first | omega | (simp; done) | (simp; omega))) | ((with_reducible refine Below.alloc ?_ ?_ _); rotate_left; focus (first | omega | (simp; done) | (simp; omega))) | (with_reducible refine Below.drew ?_) | (with_reducible refine below_drewN ?_ _) | (refine Below.trans ?_ (Below.mono (by with_reducible assumption) (by (first | omega | (simp; done) | (simp; omega)))))))⟩
  have g0 := Int.not_lt.1 n0
  go_wp2
  go_ret
  exact ⟨rfl, by (repeat (first | (with_reducible exact Below.refl _ _) | (with_reducible assumption) | ((with_reducible refine Below.setCell ?_ ?_ _); rotate_left; focus (first | omega | (simp; done) | (simp; omega))) | ((with_reducible refine Below.alloc ?_ ?_ _); rotate_left; focus (first | omega | (simp; done) | (simp; omega))) | (with_reducible refine Below.drew ?_) | (with_reducible refine below_drewN ?_ _) | (refine Below.trans ?_ (Below.mono (by with_reducible assumption) (by (first | omega | (simp; done) | (simp; omega)))))))⟩
set_option maxHeartbeats 800000 in
theorem to2_Policy (cs : List Value) (x : Policy) (w : World) (h : PolicyR.Rd w w.heap.size cs x) (hm : PolicyR.sz x ≤ 1048576) :
    Calls Tryd.prog 22 #[.agg cs.toArray] w fun e w' => ∃ cs', e = .returned (.agg cs'.toArray) ∧ PolicyR.Own w' (InR w.heap.size w'.heap.size) cs' x ∧ Below w.heap.size w w' := by
  obtain ⟨v0, rfl, q0, bName⟩ := rd_Policy h
  rw [sz_Policy] at hm
  obtain ⟨A0, c0, rfl⟩ := q0.form
  go_enter Tryd.func22, Tryd.ntmps22
  go_wp2_with fail
  refine (to2_RuleS _ _ _ (q0.keep (by (repeat (first | (with_reducible exact Below.refl _ _) | (with_reducible assumption) | ((with_reducible refine Below.setCell ?_ ?_ _); rotate_left; focus (first | omega | (simp; done) | (simp; omega))) | ((with_reducible refine Below.alloc ?_ ?_ _); rotate_left; focus (first | omega | (simp; done) | (simp; omega))) | (with_reducible refine Below.drew ?_) | (with_reducible refine below_drewN ?_ _) | (refine Below.trans ?_ (Below.mono (by with_reducible assumption) (by (first | omega | (simp; done) | (simp; omega)))))))) (by first | omega | (simp; done) | (simp; omega))) (by omega)).mono ?_
  rintro e w1 ⟨_, rfl, ho0, hb1⟩
  obtain ⟨D0, d0, rfl⟩ := ho0.form
  have hz1 := hb1.size; try simp at hz1
  obtain ⟨hc10, hf10⟩ := box hb1 (w.heap.size) (by first | omega | (simp; done) | (simp; omega))
  obtain ⟨hc11, hf11⟩ := box hb1 (w.heap.size + 1) (by first | omega | (simp; done) | (simp; omega))
  obtain ⟨hc12, hf12⟩ := box hb1 (w.heap.size + 1 + 1) (by first | omega | (simp; done) | (simp; omega))
  go_wp2
  refine bodyPost_ret (v := .agg #[.string x.Name, .slice D0 x.Rules.length d0]) (by simp [results, Tryd.results22, go_sem, hc10, hf10, hc11, hf11, hc12, hf12]) rfl ⟨[.string x.Name, .slice D0 x.Rules.length d0], rfl, ?_, by (repeat (first | (with_reducible exact Below.refl _ _) | (with_reducible assumption) | ((with_reducible refine Below.setCell ?_ ?_ _); rotate_left; focus (first | omega | (simp; done) | (simp; omega))) | ((with_reducible refine Below.alloc ?_ ?_ _); rotate_left; focus (first | omega | (simp; done) | (simp; omega))) | (with_reducible refine Below.drew ?_) | (with_reducible refine below_drewN ?_ _) | (refine Below.trans ?_ (Below.mono (by with_reducible assumption) (by (first | omega | (simp; done) | (simp; omega)))))))⟩
  refine of_own_Policy (SlOwn.off ho0 (by (repeat (first | (with_reducible exact Out.refl _ _) | (with_reducible assumption) | ((with_reducible refine Out.setCell ?_ ?_ _); rotate_left; focus (first | (refine Or.inl ?_; (first | omega | (simp; done) | (simp; omega))) | (refine Or.inr ?_; (first | omega | (simp; done) | (simp; omega))))) | (with_reducible refine Out.alloc ?_ _) | (with_reducible refine Out.drew ?_) | (with_reducible refine Out.drewN ?_ _) | (refine Out.step ?_ (by with_reducible assumption)))))) (inR_mono (by first | omega | (simp; done) | (simp; omega)) (by first | omega | (simp; done) | (simp; omega))) bName
set_option maxHeartbeats 1600000 in
theorem eq2_Policy (cs cs' : List Value) (x y : Policy) (w : World) (h : PolicyR.Rd w w.heap.size cs x) (h' : PolicyR.Rd w w.heap.size cs' y) (m : PolicyR.sz x ≤ 140737488351232) (m' : PolicyR.sz y ≤ 140737488351232) :
    Calls Tryd.prog 27 #[.agg cs.toArray, .agg cs'.toArray] w fun e w' => e = .returned (.bool (decide (x = y))) ∧ Below w.heap.size w w' := by
  obtain ⟨v0, rfl, q0, bName⟩ := rd_Policy h
  obtain ⟨A0, c0, rfl⟩ := q0.form
  obtain ⟨v0', rfl, q0', bName'⟩ := rd_Policy h'
  obtain ⟨A0', c0', rfl⟩ := q0'.form
  rw [sz_Policy] at m m'
  have m0 : szList RuleR x.Rules ≤ 140737488351232 := by omega
  have m0' : szList RuleR y.Rules ≤ 140737488351232 := by omega
  clear m m'
  have HX : Hid (∀ b : Bool, b = decide (x.Name = y.Name ∧ x.Rules = y.Rules) → b = decide (x = y)) := Lib.hid (by intro b hb; rw [hb]; cases x; cases y; simp)
  go_enter Tryd.func27, Tryd.ntmps27
  go_wp2_with (first
  | (go_at_call 47; refine (eq2_RuleS _ _ _ _ _ (by first | exact q0.keep (by (repeat (first | (with_reducible exact Below.refl _ _) | (with_reducible assumption) | ((with_reducible refine Below.setCell ?_ ?_ _); rotate_left; focus (first | omega | (simp; done) | (simp; omega))) | ((with_reducible refine Below.alloc ?_ ?_ _); rotate_left; focus (first | omega | (simp; done) | (simp; omega))) | (with_reducible refine Below.drew ?_) | (with_reducible refine below_drewN ?_ _) | (refine Below.trans ?_ (Below.mono (by with_reducible assumption) (by (first | omega | (simp; done) | (simp; omega)))))))) (by first | omega | (simp; done) | (simp; omega))) (by first | exact q0'.keep (by (repeat (first | (with_reducible exact Below.refl _ _) | (with_reducible assumption) | ((with_reducible refine Below.setCell ?_ ?_ _); rotate_left; focus (first | omega | (simp; done) | (simp; omega))) | ((with_reducible refine Below.alloc ?_ ?_ _); rotate_left; focus (first | omega | (simp; done) | (simp; omega))) | (with_reducible refine Below.drew ?_) | (with_reducible refine below_drewN ?_ _) | (refine Below.trans ?_ (Below.mono (by with_reducible assumption) (by (first | omega | (simp; done) | (simp; omega)))))))) (by first | omega | (simp; done) | (simp; omega))) (by assumption) (by assumption)).mono ?_; rintro e w1 ⟨rfl, hb1⟩; have hz1 := hb1.size; (try simp at hz1); obtain ⟨hc10, hf10⟩ := box hb1 (w.heap.size) (by first | omega | (simp; done) | (simp; omega)); obtain ⟨hc11, hf11⟩ := box hb1 (w.heap.size + 1) (by first | omega | (simp; done) | (simp; omega))))
  all_goals (go_ret; exact ⟨ret_bool (HX.out _ (by simp_all [bytes_ext])), by (repeat (first | (with_reducible exact Below.refl _ _) | (with_reducible assumption) | ((with_reducible refine Below.setCell ?_ ?_ _); rotate_left; focus (first | omega | (simp; done) | (simp; omega))) | ((with_reducible refine Below.alloc ?_ ?_ _); rotate_left; focus (first | omega | (simp; done) | (simp; omega))) | (with_reducible refine Below.drew ?_) | (with_reducible refine below_drewN ?_ _) | (refine Below.trans ?_ (Below.mono (by with_reducible assumption) (by (first | omega | (simp; done) | (simp; omega)))))))⟩)
def Policy.markTop (k : Nat) (x : Policy) : Policy := { x with Rules := mkList RuleR (k) x.Rules }
def Policy.cntTop (x : Policy) : Nat := cntList RuleR x.Rules
theorem cnt_bd_Policy (x : Policy) : x.cntTop ≤ 16 * PolicyR.sz x := by
  have h0 := cnt_bd_RuleS x.Rules
  rw [sz_Policy]
  show cntList RuleR x.Rules ≤ _
  omega
end Go.Proofs.YtoijmnnjcoogkaaDoor
namespace Go.Proofs.YtoijmnnjcoogkaaDoor
open Go.RowKit
theorem info_Policy : (Tryd.prog.info? 55).map (fun i => (i.zero, i.size, i.bytes)) = some (some (.agg #[.string ByteArray.empty, .slice none 0 0]), 2, 40) := by kernel_rfl
theorem cnt_bd_PolicyS (xs : List Policy) : cntList PolicyR xs ≤ 16 * szList PolicyR xs := by
  unfold cntList szList
  induction xs with
  | nil => simp
  | cons x xs ih =>
    rw [List.map_cons, List.sum_cons, List.map_cons, List.sum_cons, List.length_cons]
    have h1 : PolicyR.cnt x ≤ 1 + 16 * PolicyR.sz x := by
      rw [sz_Policy]
      have h0 := cnt_bd_RuleS x.Rules
      have hx : PolicyR.cnt x = (1 + cntList RuleR x.Rules) := rfl
      omega
    omega
set_option maxHeartbeats 1600000 in
theorem sz2_PolicyS (v : Value) (xs : List Policy) (left : Int) (w : World) (h : SlRd PolicyR w w.heap.size v xs) (h1 : -1 ≤ left) (h2 : left ≤ 1048576) :
    Calls Tryd.prog 5 #[v, .int .i64 left] w fun e w' => e = .returned (.int .i64 (leftOf left (szList PolicyR xs))) ∧ Below w.heap.size w w' := by
  obtain ⟨A, c, rfl⟩ := h.form
  obtain ⟨hc1, hc2⟩ := h.caps
  generalize hn : xs.length = n at *
  have Hn := Lib.hid hn
  have HZ : Hid (szList PolicyR xs = n + (xs.map PolicyR.sz).sum) := Lib.hid (by unfold szList; rw [hn])
  clear hn
  have HTot : Hid (∀ k, ((xs.take k).map PolicyR.sz).sum ≤ (xs.map PolicyR.sz).sum) := Lib.hid (sum_take_le _ _)
  generalize hs : (xs.map PolicyR.sz).sum = s at *
  have HS := Lib.hid hs
  clear hs
  go_enter Tryd.func5, Tryd.ntmps5
  by_cases h0 : left - n < 0
  · go_wp2
    go_ret
    exact ⟨ret_int (by rw [HZ.out]; unfold leftOf; rw [if_pos (by omega)]), Below.refl _ _⟩
  · go_wp2
    go_loopw [1, 5] (fun l i wr => ∃ (k q : Nat), k ≤ n ∧ i = .int .i64 k ∧ l = .int .i64 (left - n - (q : Int)) ∧ 0 ≤ left - n - (q : Int) ∧ Hid (q = ((xs.take k).map PolicyR.sz).sum) ∧ Below w.heap.size w wr) (fun _ i _ => n - (intOf i).toNat)
    case atStart => exact ⟨0, 0, Nat.zero_le _, rfl, by simp, by simp; omega, rfl, Below.refl _ _⟩
    case round =>
      obtain ⟨k, q, hk, rfl, rfl, hq0, hq, hb⟩ := hrel
      have hzr := hb.size
      by_cases hlt : k < n
      · have hlx : k < xs.length := by rw [Hn.out]; exact hlt
        have hx := List.getElem?_eq_getElem hlx
        generalize xs[k]'hlx = x at hx
        obtain ⟨b, off, cs, rfl, hab, hrd, hcell⟩ := (h.below hb (Nat.le_refl _)).elem hx
        have HE := Lib.hid (szList_elem PolicyR hx)
        have HX := Lib.hid hx
        have HT2 := HTot.out (k + 1)
        rw [HE.out, ← hq.out] at HT2
        clear hx
        have hrd2 := PolicyR.rd_more hrd hzr
        obtain ⟨_, rfl, q0, bNameq⟩ := rd_Policy hrd
        obtain ⟨A0, c0, rfl⟩ := q0.form
        have hc0_ : wr.cell? ⟨b, off + k * 2, none⟩ = some (.string x.Name) := hcell 0 _ rfl
        have hc1_ : wr.cell? ⟨b, off + k * 2 + 1, none⟩ = some (.slice A0 x.Rules.length c0) := hcell 1 _ rfl
        clear hcell
        have HSz : Hid (PolicyR.sz x = PolicyR.sz x) := rfl
        go_wp2_with fail
        refine (sz2_Policy _ x _ _ (PolicyR.rd_keep hrd2 (by (repeat (first | (with_reducible exact Below.refl _ _) | (with_reducible assumption) | ((with_reducible refine Below.setCell ?_ ?_ _); rotate_left; focus (first | omega | (simp; done) | (simp; omega))) | ((with_reducible refine Below.alloc ?_ ?_ _); rotate_left; focus (first | omega | (simp; done) | (simp; omega))) | (with_reducible refine Below.drew ?_) | (with_reducible refine below_drewN ?_ _) | (refine Below.trans ?_ (Below.mono (by with_reducible assumption) (by (first | omega | (simp; done) | (simp; omega)))))))) (by first | omega | (simp; done) | (simp; omega))) (by omega) (by omega)).mono ?_
        rintro e w1 ⟨rfl, hb1⟩
        generalize hsx : PolicyR.sz x = sx at *
        have HSX := Lib.hid hsx
        clear hsx hrd hrd2
        by_cases hneg : left - n - (q : Int) - (sx : Int) < 0
        · have hl : leftOf (left - n - (q : Int)) sx = -1 := by unfold leftOf; rw [if_pos (by omega)]
          simp only [hl]
          clear hl
          go_wp2
          go_ret
          exact ⟨ret_int (by rw [HZ.out]; unfold leftOf; rw [if_pos (by omega)]), by (repeat (first | (with_reducible exact Below.refl _ _) | (with_reducible assumption) | ((with_reducible refine Below.setCell ?_ ?_ _); rotate_left; focus (first | omega | (simp; done) | (simp; omega))) | ((with_reducible refine Below.alloc ?_ ?_ _); rotate_left; focus (first | omega | (simp; done) | (simp; omega))) | (with_reducible refine Below.drew ?_) | (with_reducible refine below_drewN ?_ _) | (refine Below.trans ?_ (Below.mono (by with_reducible assumption) (by (first | omega | (simp; done) | (simp; omega)))))))⟩
        · have hl : leftOf (left - n - (q : Int)) sx = left - n - (q : Int) - sx := by unfold leftOf; rw [if_neg (by omega)]
          simp only [hl]
          clear hl
          go_wp2
          go_roundw
          case rel => exact ⟨k + 1, q + sx, by omega, by go_num, by go_num, by omega, Lib.hid (by first | rw [HE.out, hq.out, HSX.out] | rw [HE.out, hq.out]), by (repeat (first | (with_reducible exact Below.refl _ _) | (with_reducible assumption) | ((with_reducible refine Below.setCell ?_ ?_ _); rotate_left; focus (first | omega | (simp; done) | (simp; omega))) | ((with_reducible refine Below.alloc ?_ ?_ _); rotate_left; focus (first | omega | (simp; done) | (simp; omega))) | (with_reducible refine Below.drew ?_) | (with_reducible refine below_drewN ?_ _) | (refine Below.trans ?_ (Below.mono (by with_reducible assumption) (by (first | omega | (simp; done) | (simp; omega)))))))⟩
          case measure => simp [intOf]; omega
      · obtain rfl : k = n := by omega
        have hq2 := hq.out
        rw [List.take_of_length_le (by rw [Hn.out]; exact Nat.le_refl _), HS.out] at hq2
        subst hq2
        go_wp2
        go_ret
        exact ⟨ret_int (by rw [HZ.out]; unfold leftOf; rw [if_neg (by omega)]; omega), by (repeat (first | (with_reducible exact Below.refl _ _) | (with_reducible assumption) | ((with_reducible refine Below.setCell ?_ ?_ _); rotate_left; focus (first | omega | (simp; done) | (simp; omega))) | ((with_reducible refine Below.alloc ?_ ?_ _); rotate_left; focus (first | omega | (simp; done) | (simp; omega))) | (with_reducible refine Below.drew ?_) | (with_reducible refine below_drewN ?_ _) | (refine Below.trans ?_ (Below.mono (by with_reducible assumption) (by (first | omega | (simp; done) | (simp; omega)))))))⟩
set_option maxHeartbeats 3200000 in
theorem to2_PolicyS (v : Value) (xs : List Policy) (w : World) (h : SlRd PolicyR w w.heap.size v xs) (hm : szList PolicyR xs ≤ 1048576) :
    Calls Tryd.prog 8 #[v] w fun e w' => ∃ v', e = .returned v' ∧ SlOwn PolicyR 55 w' (InR w.heap.size w'.heap.size) v' xs ∧ Below w.heap.size w w' := by
  obtain ⟨i0, hi, hI0, hI1, hI2⟩ := info_parts info_Policy
  obtain ⟨A, c, rfl⟩ := h.form
  have hlen : xs.length ≤ 1048576 := Nat.le_trans (Nat.le_add_right _ _) hm
  have HE : Hid (∀ k x, xs[k]? = some x → PolicyR.sz x ≤ 1048576) := Lib.hid (fun k x hx => Nat.le_trans (szList_one hx) hm)
  generalize hn : xs.length = n at *
  have Hn := Lib.hid hn
  clear hn
  go_enter Tryd.func8, Tryd.ntmps8
  go_wp2_with (first | (at_make; refine wpList_make_full _ rfl _ _ 28 rfl w.heap.size 55 i0 _ 2 Tryd.underlying28 hi hI0 hI1 .i64 .i64 _ _ n rfl rfl (by omega) (by omega) (by rw [hI2]; omega) (by unfold maxLen; omega) (Nat.le_refl _) ?_; intro w1 hown hg))
  have hb0 : Below w.heap.size w w1 := (Below.refl _ _).grown hg (Nat.le_refl _) (by simp)
  obtain ⟨css0, z1, z2, z3⟩ := Rows.of_any hown (by omega)
  replace z3 := z3.wide (T := fun g => g = w.heap.size) (fun g hg => by simpa [Value.ownBlock] using hg.symm)
  have hlt0 := own_lt hown _ rfl
  clear hown hg
  go_loopw [4] (fun i wr => ∃ (k : Nat) (css : List (List Value)) (Ss : List (Nat → Prop)), k ≤ n ∧ i = .int .i64 k ∧ Rows wr (fun g => g = w.heap.size) 55 2 (some ⟨w.heap.size, 0, none⟩) css ∧ Hid (css.length = n) ∧ Hid (∀ cs ∈ css, cs.length = 2) ∧ Built PolicyR wr (w.heap.size + 1) Ss (css.take k) (xs.take k) ∧ Below w.heap.size w wr ∧ w.heap.size < wr.heap.size) (fun i _ => n - (intOf i).toNat)
  case atStart => exact ⟨0, css0, [], Nat.zero_le _, rfl, z3, z1, z2, Built.nil _ _ _, hb0, hlt0⟩
  case round =>
    obtain ⟨k, css, Ss, hk, rfl, hrw, hcl, hcm, hbt, hb, hzr⟩ := hrel
    clear hb0 hlt0 z1 z2 z3
    by_cases hlt : k < n
    · have hlx : k < xs.length := by rw [Hn.out]; exact hlt
      have hx := List.getElem?_eq_getElem hlx
      generalize xs[k]'hlx = x at hx
      obtain ⟨b, off, cs, rfl, hab, hrd, hcell⟩ := (h.below hb (Nat.le_refl _)).elem hx
      have HX := Lib.hid hx
      have hsz := HE.out k x hx
      clear hx
      have hrd2 := PolicyR.rd_more hrd (by omega : w.heap.size ≤ wr.heap.size)
      obtain ⟨_, rfl, q0, bNameq⟩ := rd_Policy hrd
      obtain ⟨A0, c0, rfl⟩ := q0.form
      have hc0_ : wr.cell? ⟨b, off + k * 2, none⟩ = some (.string x.Name) := hcell 0 _ rfl
      have hc1_ : wr.cell? ⟨b, off + k * 2 + 1, none⟩ = some (.slice A0 x.Rules.length c0) := hcell 1 _ rfl
      clear hcell hrd
      go_wp2_with fail
      refine (to2_Policy _ x _ (PolicyR.rd_keep hrd2 (by (repeat (first | (with_reducible exact Below.refl _ _) | (with_reducible assumption) | ((with_reducible refine Below.setCell ?_ ?_ _); rotate_left; focus (first | omega | (simp; done) | (simp; omega))) | ((with_reducible refine Below.alloc ?_ ?_ _); rotate_left; focus (first | omega | (simp; done) | (simp; omega))) | (with_reducible refine Below.drew ?_) | (with_reducible refine below_drewN ?_ _) | (refine Below.trans ?_ (Below.mono (by with_reducible assumption) (by (first | omega | (simp; done) | (simp; omega)))))))) (by first | omega | (simp; done) | (simp; omega))) hsz).mono ?_
      rintro e w2 ⟨_, rfl, ho2, hb2⟩
      have ho2' := ho2
      obtain ⟨_, Sp0, rfl, p0, sp0, bNamep⟩ := own_Policy ho2
      obtain ⟨D0, d0, rfl⟩ := p0.form
      have hkl : k < css.length := by rw [hcl.out]; exact hlt
      have hje := List.getElem?_eq_getElem hkl
      have hone := hcm.out _ (List.getElem_mem hkl)
      generalize css[k]'hkl = cs0 at hje hone
      obtain ⟨u0, u1, rfl⟩ : ∃ u0 u1, cs0 = [u0, u1] := by
        match cs0, hone with
        | [u0, u1], _ => exact ⟨u0, u1, rfl⟩
      have J0 := RowsJ.start (hrw.keep hb2) hcm.out hje
      obtain ⟨_, hgl, hat⟩ := J0.at_
      have hz2 := hb2.size
      have hd0_ : w2.cell? ⟨w.heap.size, k * 2, none⟩ = some u0 := by have := (hat 0 _ rfl).1; simpa only [Nat.zero_add, Nat.add_zero] using this
      have he0_ : w2.frozen? ⟨w.heap.size, k * 2, none⟩ = false := by have := (hat 0 _ rfl).2; simpa only [Nat.zero_add, Nat.add_zero] using this
      have hd1_ : w2.cell? ⟨w.heap.size, k * 2 + 1, none⟩ = some u1 := by have := (hat 1 _ rfl).1; simpa only [Nat.zero_add, Nat.add_zero] using this
      have he1_ : w2.frozen? ⟨w.heap.size, k * 2 + 1, none⟩ = false := by have := (hat 1 _ rfl).2; simpa only [Nat.zero_add, Nat.add_zero] using this
      clear hat hone
      have HJ := Lib.hid hje
      clear hje
      go_wp2
      go_roundw
      case rel =>
        have J1 := J0.set (i := 0) (by omega) (.string x.Name)
        have J2 := J1.set (i := 1) (by omega) (.slice D0 x.Rules.length d0)
        simp only [Nat.zero_add, Nat.add_zero, List.set_cons_zero, List.set_cons_succ] at J2
        have hpre : ∀ s ∈ Ss, ∀ g, s g → w.heap.size + 1 ≤ g ∧ g < wr.heap.size := hbt.inn
        have hbx : Below wr.heap.size wr w2 := by (repeat (first | (with_reducible exact Below.refl _ _) | (with_reducible assumption) | ((with_reducible refine Below.setCell ?_ ?_ _); rotate_left; focus (first | omega | (simp; done) | (simp; omega))) | ((with_reducible refine Below.alloc ?_ ?_ _); rotate_left; focus (first | omega | (simp; done) | (simp; omega))) | (with_reducible refine Below.drew ?_) | (with_reducible refine below_drewN ?_ _) | (refine Below.trans ?_ (Below.mono (by with_reducible assumption) (by (first | omega | (simp; done) | (simp; omega)))))))
        have B1 := hbt.keep hbx
        have B2 := B1.setC (a := ⟨w.heap.size, k * 2, none⟩) (fun s hs hg => by have := (hpre s hs _ hg).1; simp at this; omega) (.string x.Name)
        have B3 := B2.setC (a := ⟨w.heap.size, k * 2 + 1, none⟩) (fun s hs hg => by have := (hpre s hs _ hg).1; simp at this; omega) (.slice D0 x.Rules.length d0)
        have hOf : Out (Off wr.heap.size w2.heap.size) w2 ((w2.setCell ⟨w.heap.size, k * 2, none⟩ (.string x.Name)).setCell ⟨w.heap.size, k * 2 + 1, none⟩ (.slice D0 x.Rules.length d0)) := by (repeat (first | (with_reducible exact Out.refl _ _) | (with_reducible assumption) | ((with_reducible refine Out.setCell ?_ ?_ _); rotate_left; focus (first | (refine Or.inl ?_; (first | omega | (simp; done) | (simp; omega))) | (refine Or.inr ?_; (first | omega | (simp; done) | (simp; omega))))) | (with_reducible refine Out.alloc ?_ _) | (with_reducible refine Out.drew ?_) | (with_reducible refine Out.drewN ?_ _) | (refine Out.step ?_ (by with_reducible assumption))))
        have hN := PolicyR.own_off (PolicyR.own_wide ho2' (inR_mono (lo' := wr.heap.size) (hi' := w2.heap.size) (by first | omega | (simp; done) | (simp; omega)) (by first | omega | (simp; done) | (simp; omega)))) hOf
        have B9 := B3.snoc hN (by omega) (by first | omega | (simp; done) | (simp; omega)) (fun s hs g hg => (hpre s hs g hg).2)
        refine ⟨k + 1, css.set k [.string x.Name, .slice D0 x.Rules.length d0], Ss ++ [InR wr.heap.size w2.heap.size], by omega, by go_num, J2.rows, by rw [List.length_set]; exact hcl, Lib.hid J2.len'.2, ?_, by (repeat (first | (with_reducible exact Below.refl _ _) | (with_reducible assumption) | ((with_reducible refine Below.setCell ?_ ?_ _); rotate_left; focus (first | omega | (simp; done) | (simp; omega))) | ((with_reducible refine Below.alloc ?_ ?_ _); rotate_left; focus (first | omega | (simp; done) | (simp; omega))) | (with_reducible refine Below.drew ?_) | (with_reducible refine below_drewN ?_ _) | (refine Below.trans ?_ (Below.mono (by with_reducible assumption) (by (first | omega | (simp; done) | (simp; omega))))))), (by first | omega | (simp; done) | (simp; omega))⟩
        rw [take_snoc HX.out, List.take_succ_eq_append_getElem (by rw [List.length_set]; exact hkl), List.take_set_of_le (Nat.le_refl _), List.getElem_set_self]
        exact B9
      case measure => simp [intOf]; omega
    · obtain rfl : k = n := by omega
      have h1 : css.take k = css := List.take_of_length_le (by rw [hcl.out]; exact Nat.le_refl _)
      have h2 : xs.take k = xs := List.take_of_length_le (by rw [Hn.out]; exact Nat.le_refl _)
      rw [h1, h2] at hbt
      have H1 := Lib.hid h1
      have H2 := Lib.hid h2
      clear h1 h2
      go_wp2
      go_ret
      refine ⟨_, rfl, ?_, hb⟩
      have hf := hbt.own (S := InR w.heap.size wr.heap.size) (c := k) hrw (by rw [Hn.out]; exact Nat.le_refl _) (by omega) (fun g hg => by rw [hg]; exact ⟨Nat.le_refl _, hzr⟩) (fun s hs g hg => ⟨⟨by have := (hbt.inn s hs g hg).1; omega, (hbt.inn s hs g hg).2⟩, fun hg' => by have := (hbt.inn s hs g hg).1; omega⟩)
      rw [Hn.out] at hf
      exact hf
set_option maxHeartbeats 3200000 in
theorem eq2_PolicyS (v v' : Value) (xs ys : List Policy) (w : World) (h : SlRd PolicyR w w.heap.size v xs) (h' : SlRd PolicyR w w.heap.size v' ys) (hm : szList PolicyR xs ≤ 140737488351232) (hm' : szList PolicyR ys ≤ 140737488351232) :
    Calls Tryd.prog 10 #[v, v'] w fun e w' => e = .returned (.bool (decide (xs = ys))) ∧ Below w.heap.size w w' := by
  obtain ⟨A, c, rfl⟩ := h.form
  obtain ⟨A', c', rfl⟩ := h'.form
  obtain ⟨hc1, hc2⟩ := h.caps
  obtain ⟨hc1', hc2'⟩ := h'.caps
  have HE : Hid (∀ k x, xs[k]? = some x → PolicyR.sz x ≤ 140737488351232) := Lib.hid (fun k x hx => Nat.le_trans (szList_one hx) hm)
  have HE' : Hid (∀ k x, ys[k]? = some x → PolicyR.sz x ≤ 140737488351232) := Lib.hid (fun k x hx => Nat.le_trans (szList_one hx) hm')
  clear hm hm'
  generalize hn : xs.length = n at *
  have Hn := Lib.hid hn
  clear hn
  generalize hn' : ys.length = n' at *
  have Hn' := Lib.hid hn'
  clear hn'
  by_cases hl : n = n'
  · subst hl
    go_enter Tryd.func10, Tryd.ntmps10
    go_wp2
    go_loopw [5] (fun i wr => ∃ k : Nat, k ≤ n ∧ i = .int .i64 k ∧ Below w.heap.size w wr ∧ Hid (xs.take k = ys.take k)) (fun i _ => n - (intOf i).toNat)
    case atStart => exact ⟨0, Nat.zero_le _, rfl, Below.refl _ _, rfl⟩
    case round =>
      obtain ⟨k, hk, rfl, hb, he⟩ := hrel
      have hzr := hb.size
      by_cases hlt : k < n
      · have hlx : k < xs.length := by rw [Hn.out]; exact hlt
        have hly : k < ys.length := by rw [Hn'.out]; exact hlt
        have hx := List.getElem?_eq_getElem hlx
        have hy := List.getElem?_eq_getElem hly
        generalize xs[k]'hlx = x at hx
        generalize ys[k]'hly = y at hy
        obtain ⟨b, off, cs, rfl, hab, hrd, hcell⟩ := h.elem hx
        obtain ⟨b', off', cs', rfl, hab', hrd', hcell'⟩ := h'.elem hy
        have hsx := HE.out k x hx
        have hsy := HE'.out k y hy
        have HX := Lib.hid hx
        have HY := Lib.hid hy
        clear hx hy
        have hrd2 := hrd
        have hrd2' := hrd'
        obtain ⟨_, rfl, q0, bNameq⟩ := rd_Policy hrd
        obtain ⟨A0, c0, rfl⟩ := q0.form
        obtain ⟨_, rfl, p0, bNamep⟩ := rd_Policy hrd'
        obtain ⟨D0, d0, rfl⟩ := p0.form
        have C := Lib.hid (fun (w' : World) (hb' : Below w.heap.size w w') (i : Nat) (u : Value) (hu : [.string x.Name, .slice A0 x.Rules.length c0][i]? = some u) => (hb'.cell (p := ⟨b, off + (k * 2 + i), none⟩) hab).trans (hcell i u hu))
        have C' := Lib.hid (fun (w' : World) (hb' : Below w.heap.size w w') (i : Nat) (u : Value) (hu : [.string y.Name, .slice D0 y.Rules.length d0][i]? = some u) => (hb'.cell (p := ⟨b', off' + (k * 2 + i), none⟩) hab').trans (hcell' i u hu))
        clear hcell hcell' hrd hrd'
        go_wp2
        go_region_held3 (fun w' => w'.cell? ⟨b, off + k * 2, none⟩ = some (.string x.Name) ∧ w'.cell? ⟨b, off + k * 2 + 1, none⟩ = some (.slice A0 x.Rules.length c0) ∧ w'.cell? ⟨b', off' + k * 2, none⟩ = some (.string y.Name) ∧ w'.cell? ⟨b', off' + k * 2 + 1, none⟩ = some (.slice D0 y.Rules.length d0))
          (first | exact ⟨C.out _ (by (repeat (first | (with_reducible exact Below.refl _ _) | (with_reducible assumption) | ((with_reducible refine Below.setCell ?_ ?_ _); rotate_left; focus (first | omega | (simp; done) | (simp; omega))) | ((with_reducible refine Below.alloc ?_ ?_ _); rotate_left; focus (first | omega | (simp; done) | (simp; omega))) | (with_reducible refine Below.drew ?_) | (with_reducible refine below_drewN ?_ _) | (refine Below.trans ?_ (Below.mono (by with_reducible assumption) (by (first | omega | (simp; done) | (simp; omega)))))))) 0 _ rfl, C.out _ (by (repeat (first | (with_reducible exact Below.refl _ _) | (with_reducible assumption) | ((with_reducible refine Below.setCell ?_ ?_ _); rotate_left; focus (first | omega | (simp; done) | (simp; omega))) | ((with_reducible refine Below.alloc ?_ ?_ _); rotate_left; focus (first | omega | (simp; done) | (simp; omega))) | (with_reducible refine Below.drew ?_) | (with_reducible refine below_drewN ?_ _) | (refine Below.trans ?_ (Below.mono (by with_reducible assumption) (by (first | omega | (simp; done) | (simp; omega)))))))) 1 _ rfl, C'.out _ (by (repeat (first | (with_reducible exact Below.refl _ _) | (with_reducible assumption) | ((with_reducible refine Below.setCell ?_ ?_ _); rotate_left; focus (first | omega | (simp; done) | (simp; omega))) | ((with_reducible refine Below.alloc ?_ ?_ _); rotate_left; focus (first | omega | (simp; done) | (simp; omega))) | (with_reducible refine Below.drew ?_) | (with_reducible refine below_drewN ?_ _) | (refine Below.trans ?_ (Below.mono (by with_reducible assumption) (by (first | omega | (simp; done) | (simp; omega)))))))) 0 _ rfl, C'.out _ (by (repeat (first | (with_reducible exact Below.refl _ _) | (with_reducible assumption) | ((with_reducible refine Below.setCell ?_ ?_ _); rotate_left; focus (first | omega | (simp; done) | (simp; omega))) | ((with_reducible refine Below.alloc ?_ ?_ _); rotate_left; focus (first | omega | (simp; done) | (simp; omega))) | (with_reducible refine Below.drew ?_) | (with_reducible refine below_drewN ?_ _) | (refine Below.trans ?_ (Below.mono (by with_reducible assumption) (by (first | omega | (simp; done) | (simp; omega)))))))) 1 _ rfl⟩)
          (first | (go_at_call 27; refine (eq2_Policy _ _ x y _ (PolicyR.rd_keep hrd2 (by (repeat (first | (with_reducible exact Below.refl _ _) | (with_reducible assumption) | ((with_reducible refine Below.setCell ?_ ?_ _); rotate_left; focus (first | omega | (simp; done) | (simp; omega))) | ((with_reducible refine Below.alloc ?_ ?_ _); rotate_left; focus (first | omega | (simp; done) | (simp; omega))) | (with_reducible refine Below.drew ?_) | (with_reducible refine below_drewN ?_ _) | (refine Below.trans ?_ (Below.mono (by with_reducible assumption) (by (first | omega | (simp; done) | (simp; omega)))))))) (by first | omega | (simp; done) | (simp; omega))) (PolicyR.rd_keep hrd2' (by (repeat (first | (with_reducible exact Below.refl _ _) | (with_reducible assumption) | ((with_reducible refine Below.setCell ?_ ?_ _); rotate_left; focus (first | omega | (simp; done) | (simp; omega))) | ((with_reducible refine Below.alloc ?_ ?_ _); rotate_left; focus (first | omega | (simp; done) | (simp; omega))) | (with_reducible refine Below.drew ?_) | (with_reducible refine below_drewN ?_ _) | (refine Below.trans ?_ (Below.mono (by with_reducible assumption) (by (first | omega | (simp; done) | (simp; omega)))))))) (by first | omega | (simp; done) | (simp; omega))) hsx hsy).mono ?_; rintro e w2 ⟨rfl, hb2⟩))
        go_wp2
        · have hst : (!decide (x = y)) = true := by assumption
          go_ret
          exact ⟨ret_bool (ne_of_at HX.out HY.out (by simpa using hst)).symm, by (repeat (first | (with_reducible exact Below.refl _ _) | (with_reducible assumption) | ((with_reducible refine Below.setCell ?_ ?_ _); rotate_left; focus (first | omega | (simp; done) | (simp; omega))) | ((with_reducible refine Below.alloc ?_ ?_ _); rotate_left; focus (first | omega | (simp; done) | (simp; omega))) | (with_reducible refine Below.drew ?_) | (with_reducible refine below_drewN ?_ _) | (refine Below.trans ?_ (Below.mono (by with_reducible assumption) (by (first | omega | (simp; done) | (simp; omega)))))))⟩
        · have hst : (!decide (x = y)) = false := by assumption
          go_roundw
          case rel => exact ⟨k + 1, by omega, by go_num, by (repeat (first | (with_reducible exact Below.refl _ _) | (with_reducible assumption) | ((with_reducible refine Below.setCell ?_ ?_ _); rotate_left; focus (first | omega | (simp; done) | (simp; omega))) | ((with_reducible refine Below.alloc ?_ ?_ _); rotate_left; focus (first | omega | (simp; done) | (simp; omega))) | (with_reducible refine Below.drew ?_) | (with_reducible refine below_drewN ?_ _) | (refine Below.trans ?_ (Below.mono (by with_reducible assumption) (by (first | omega | (simp; done) | (simp; omega))))))), take_step he.out HX.out HY.out (by simpa using hst)⟩
          case measure => simp [intOf]; omega
      · obtain rfl : k = n := by omega
        go_wp2
        go_ret
        exact ⟨ret_bool (by simp [eq_of_take he.out Hn.out Hn'.out]), by (repeat (first | (with_reducible exact Below.refl _ _) | (with_reducible assumption) | ((with_reducible refine Below.setCell ?_ ?_ _); rotate_left; focus (first | omega | (simp; done) | (simp; omega))) | ((with_reducible refine Below.alloc ?_ ?_ _); rotate_left; focus (first | omega | (simp; done) | (simp; omega))) | (with_reducible refine Below.drew ?_) | (with_reducible refine below_drewN ?_ _) | (refine Below.trans ?_ (Below.mono (by with_reducible assumption) (by (first | omega | (simp; done) | (simp; omega)))))))⟩
  · go_enter Tryd.func10, Tryd.ntmps10
    have hb : ((n : Int) != n') = true := by simp; omega
    go_wp2
    go_ret
    exact ⟨ret_bool (ne_of_len Hn.out Hn'.out hl).symm, Below.refl _ _⟩
theorem cnt1_Policy (x : Policy) (k : Nat) : k + PolicyR.cnt x = k + 1 + cntList RuleR x.Rules := by
  have hx : PolicyR.cnt x = (1 + cntList RuleR x.Rules) := rfl
  omega
theorem mark1_Policy (x : Policy) (k : Nat) : PolicyR.mark k x = ⟨markT (k), mkList RuleR (k + 1) x.Rules⟩ := rfl
set_option maxHeartbeats 6400000 in
theorem mark2_PolicyS (v : Value) (xs : List Policy) (S : Nat → Prop) (k : Nat) (w : World) (h : SlOwn PolicyR 55 w S v xs) (hm : szList PolicyR xs ≤ 2097152) (hS : ∀ g, S g → g < w.heap.size) (h0 : 0 < k) (hk : k ≤ 60000000) :
    Calls Tryd.prog 13 #[v, .int .i64 k] w fun e w' => e = .returned (.int .i64 ((k + cntList PolicyR xs : Nat) : Int)) ∧ SlOwn PolicyR 55 w' S v (mkList PolicyR k xs) ∧ Out S w w' := by
  have hcb : cntList PolicyR xs ≤ 35000000 := by have := cnt_bd_PolicyS xs; omega
  obtain ⟨A, c, css0, S0, Ss, rfl, hc1, hc2, hrw, hall, hS0, hSs, hpw⟩ := h
  have HT : Hid (∀ j x, xs[j]? = some x → cntList PolicyR (xs.take j) + PolicyR.cnt x ≤ cntList PolicyR xs) := Lib.hid (fun j x hx => by rw [← cntList_snoc PolicyR hx]; exact sum_take_le _ _ _)
  have HSz : Hid (∀ j x, xs[j]? = some x → PolicyR.sz x ≤ 2097152) := Lib.hid (fun j x hx => Nat.le_trans (szList_one hx) hm)
  have HF : Hid (∀ (w' : World) (css : List (List Value)), Rows w' S0 55 2 A css → OwnAll PolicyR w' Ss css (mkList PolicyR k xs) → SlOwn PolicyR 55 w' S (.slice A xs.length c) (mkList PolicyR k xs)) := Lib.hid (fun w' css a b => ⟨A, c, css, S0, Ss, by rw [mkList_len], by rw [mkList_len]; exact hc1, hc2, a, b, hS0, hSs, hpw⟩)
  have HP : Hid (∀ i j (s u : Nat → Prop), i ≠ j → Ss[i]? = some s → Ss[j]? = some u → ∀ g, s g → ¬ u g) := Lib.hid (fun i j s u hij hi hj => pairwise_get hpw (fun a b hab g hg hg' => hab g hg' hg) hij hi hj)
  have HA : Hid (∀ i (s : Nat → Prop), Ss[i]? = some s → ∀ g, s g → S g ∧ ¬ S0 g) := Lib.hid (fun i s hi => hSs s (List.mem_of_getElem? hi))
  have hall0 : OwnAll PolicyR w Ss css0 (mkTo PolicyR k xs 0) := by rw [mkTo_zero]; exact hall
  have HL : Hid (Ss.length = xs.length) := Lib.hid hall.2.1
  generalize hn : xs.length = n at *
  have Hn := Lib.hid hn
  generalize hN : cntList PolicyR xs = N at *
  have HN := Lib.hid hN
  clear hn hN hm hall hpw hSs
  go_enter Tryd.func13, Tryd.ntmps13
  go_wp2
  go_loopw [1, 5] (fun kk i wr => ∃ (j q : Nat) (css : List (List Value)), j ≤ n ∧ i = .int .i64 j ∧ kk = .int .i64 ((k : Int) + (q : Int)) ∧ Hid (q = cntList PolicyR (xs.take j)) ∧ Rows wr S0 55 2 A css ∧ OwnAll PolicyR wr Ss css (mkTo PolicyR k xs j) ∧ Out S w wr) (fun _ i _ => n - (intOf i).toNat)
  case atStart => exact ⟨0, 0, css0, Nat.zero_le _, rfl, by simp, rfl, hrw, hall0, Out.refl _ _⟩
  case round =>
    clear hrw hall0
    obtain ⟨j, q, css, hj, rfl, rfl, hq, hrw, hall, ho⟩ := hrel
    have hzr := ho.size
    by_cases hlt : j < n
    · have hlx : j < xs.length := by rw [Hn.out]; exact hlt
      have hx := List.getElem?_eq_getElem hlx
      generalize xs[j]'hlx = x at hx
      have hqb := HT.out j x hx
      have hsz := HSz.out j x hx
      rw [← hq.out] at hqb
      have hy := mkTo_get PolicyR k hx
      have hcl : css.length = xs.length := by rw [hall.1, mkTo_len _ _ _ _ (Nat.le_of_lt hlx)]
      have hsl := HL.out
      have hnx := Hn.out
      have hje := List.getElem?_eq_getElem (l := css) (i := j) (by omega)
      have hse := List.getElem?_eq_getElem (l := Ss) (i := j) (by omega)
      generalize css[j]'(by omega) = cs at hje
      generalize Ss[j]'(by omega) = Sj at hse
      have hown := hall.2.2 j Sj cs x hse hje hy
      obtain ⟨g, off, rfl⟩ := hrw.addr (by omega)
      have hlens : ∀ cs ∈ css, cs.length = 2 := fun cs' hcs => by
        obtain ⟨i, hi, rfl⟩ := List.mem_iff_getElem.1 hcs
        have hi1 : i < Ss.length := by omega
        have hi2 : i < (mkTo PolicyR k xs j).length := by rw [← hall.1]; exact hi
        exact PolicyR.own_len (hall.2.2 i _ _ _ (List.getElem?_eq_getElem hi1) (List.getElem?_eq_getElem hi) (List.getElem?_eq_getElem hi2))
      have HX := Lib.hid hx
      have HJE := Lib.hid hje
      have HSE := Lib.hid hse
      have HCL := Lib.hid hcl
      have J0 := RowsJ.start hrw hlens hje
      have HAj := HA.out j Sj hse
      clear hx hje hse hcl hy hnx hsl
      obtain ⟨_, Sq0, rfl, E0, sq0, bName⟩ := own_Policy hown
      obtain ⟨A0, c0, rfl⟩ := E0.form
      rw [sz_Policy] at hsz
      obtain ⟨hSg, hgl, hat⟩ := J0.at_
      have hgS : S g := hS0 g hSg
      have hgw : g < w.heap.size := hS g hgS
      have hd0_ : wr.cell? ⟨g, off + j * 2, none⟩ = some (.string x.Name) := (hat 0 _ rfl).1
      have he0_ : wr.frozen? ⟨g, off + j * 2, none⟩ = false := (hat 0 _ rfl).2
      have hd1_ : wr.cell? ⟨g, off + j * 2 + 1, none⟩ = some (.slice A0 x.Rules.length c0) := (hat 1 _ rfl).1
      have he1_ : wr.frozen? ⟨g, off + j * 2 + 1, none⟩ = false := (hat 1 _ rfl).2
      clear hat
      have hOr : Out (fun z => z = g ∨ Sj z) wr wr := Out.refl _ _
      have hcq0 := cnt_bd_RuleS x.Rules
      rw [show q + PolicyR.cnt x = q + 1 + cntList RuleR x.Rules from cnt1_Policy x q] at hqb
      go_wp2_with fail
      refine (Calls.cast (by push_cast; rfl) (laws_markText (k + q) _ (by omega) (by omega))).mono ?_
      rintro e w1 ⟨rfl, hb1⟩
      have hz1 := hb1.size
      replace hOr := hOr.step hb1
      have J1 := J0.keep hb1
      replace E0 := E0.keep hb1
      obtain ⟨_, hgl1, hat⟩ := J1.at_
      have hd0_ : w1.cell? ⟨g, off + j * 2, none⟩ = some (.string x.Name) := (hat 0 _ rfl).1
      have he0_ : w1.frozen? ⟨g, off + j * 2, none⟩ = false := (hat 0 _ rfl).2
      have hd1_ : w1.cell? ⟨g, off + j * 2 + 1, none⟩ = some (.slice A0 x.Rules.length c0) := (hat 1 _ rfl).1
      have he1_ : w1.frozen? ⟨g, off + j * 2 + 1, none⟩ = false := (hat 1 _ rfl).2
      clear hat
      go_wp2_with fail
      have J2 : RowsJ (w1.setCell ⟨g, off + j * 2, none⟩ (.string (markT (k + q)))) S0 55 2 (some ⟨g, off, none⟩) css j [.string (markT (k + q)), .slice A0 x.Rules.length c0] := J1.set (i := 0) (by omega) (.string (markT (k + q)))
      replace hOr : Out (fun z => z = g ∨ Sj z) wr (w1.setCell ⟨g, off + j * 2, none⟩ (.string (markT (k + q)))) := hOr.setCell (p := ⟨g, off + j * 2, none⟩) (Or.inl rfl) _
      replace E0 := E0.out (T := fun z => z = g) ((Out.refl (fun z => z = g) w1).setCell (p := ⟨g, off + j * 2, none⟩) rfl (.string (markT (k + q)))) (fun z hz hz' => (HAj z (sq0 z hz)).2 (hz' ▸ hSg))
      refine (Calls.cast (by push_cast; rfl) (mark2_RuleS _ _ _ (k + q + 1) _ E0 (by omega : szList RuleR x.Rules ≤ 2097152) (fun z hz => by have h1 := hS z (HAj z (sq0 z hz)).1; have h2 := hOr.size; omega) (by omega) (by omega))).mono ?_
      rintro e w2 ⟨rfl, F0, hO0⟩
      replace hOr := hOr.trans (hO0.wide (fun z hz => Or.inr (sq0 z hz)))
      have J3 := J2.out hO0 (fun z hz hz' => (HAj z (sq0 z hz')).2 hz)
      replace E0 := F0
      obtain ⟨_, hgl2, hat⟩ := J3.at_
      have hd1_ : w2.cell? ⟨g, off + j * 2 + 1, none⟩ = some (.slice A0 x.Rules.length c0) := (hat 1 _ rfl).1
      have he1_ : w2.frozen? ⟨g, off + j * 2 + 1, none⟩ = false := (hat 1 _ rfl).2
      clear hat
      go_wp2
      have hcs : ([.string (markT (k + q)), .slice A0 x.Rules.length c0] : List Value) = [.string (markT (k + q)), .slice A0 x.Rules.length c0] := by push_cast; rfl
      rw [hcs] at J3
      have hml0 : x.Rules.length = (mkList RuleR (k + q + 1) x.Rules).length := (mkList_len _ _ _).symm
      have hN : PolicyR.Own w2 Sj [.string (markT (k + q)), .slice A0 x.Rules.length c0] (PolicyR.mark (k + q) x) := by
        rw [mark1_Policy]
        have h1 := of_own_Policy (S := Sj) (x := ⟨markT ((k + q)), mkList RuleR ((k + q) + 1) x.Rules⟩) E0 sq0 (Nat.le_trans (markT_size _) (by omega))
        simp only [mkList_len] at h1
        exact h1
      go_roundw
      case rel =>
        refine ⟨j + 1, q + PolicyR.cnt x, css.set j [.string (markT (k + q)), .slice A0 x.Rules.length c0], by omega, by go_num, ?_, Lib.hid (by rw [cntList_snoc PolicyR HX.out, hq.out]), J3.rows, ?_, ho.trans (hOr.wide (fun z hz => by rcases hz with hz | hz; exact hz ▸ hgS; exact (HAj z hz).1))⟩
        · have h1 := cnt1_Policy x q
          have h2 : ((q + PolicyR.cnt x : Nat) : Int) = ((q + 1 + cntList RuleR x.Rules : Nat) : Int) := by rw [h1]
          push_cast at h2 ⊢
          first | (rw [h2]; simp only [Int.add_assoc]) | (congr 1; omega)
        · rw [mkTo_succ PolicyR k HX.out, ← hq.out]
          refine hall.set HSE.out hOr (fun i s hij hi z hz hz' => ?_) hN
          rcases hz' with hz' | hz'
          · exact (HA.out i s hi z hz).2 (hz' ▸ hSg)
          · exact HP.out i j s Sj hij hi HSE.out z hz hz'
      case measure => simp [intOf]; omega
    · obtain rfl : j = n := by omega
      have hq2 := hq.out
      rw [List.take_of_length_le (by rw [Hn.out]; exact Nat.le_refl _), HN.out] at hq2
      subst hq2
      have hall2 : OwnAll PolicyR wr Ss css (mkList PolicyR k xs) := by rw [← mkTo_all, Hn.out]; exact hall
      go_wp2
      go_ret
      exact ⟨by first | rfl | (push_cast; rfl), HF.out _ _ hrw hall2, ho⟩
set_option maxHeartbeats 6400000 in
theorem held2_PolicyS (v : Value) (xs : List Policy) (k : Nat) (w : World) (h : SlRd PolicyR w w.heap.size v (mkList PolicyR k xs)) (hm : szList PolicyR xs ≤ 2097152) (h0 : 0 < k) (hk : k ≤ 60000000) :
    Calls Tryd.prog 14 #[v, .int .i64 k] w fun e w' => e = .returned (.int .i64 ((k + cntList PolicyR xs : Nat) : Int)) ∧ Below w.heap.size w w' := by
  have hcb : cntList PolicyR xs ≤ 35000000 := by have := cnt_bd_PolicyS xs; omega
  obtain ⟨A, c, rfl⟩ := h.form
  have hlen : xs.length ≤ 2097152 := Nat.le_trans (Nat.le_add_right _ _) hm
  have HT : Hid (∀ j x, xs[j]? = some x → cntList PolicyR (xs.take j) + PolicyR.cnt x ≤ cntList PolicyR xs) := Lib.hid (fun j x hx => by rw [← cntList_snoc PolicyR hx]; exact sum_take_le _ _ _)
  have HSz : Hid (∀ j x, xs[j]? = some x → PolicyR.sz x ≤ 2097152) := Lib.hid (fun j x hx => Nat.le_trans (szList_one hx) hm)
  have HM : Hid (∀ j x, xs[j]? = some x → (mkList PolicyR k xs)[j]? = some (PolicyR.mark (k + cntList PolicyR (xs.take j)) x)) := Lib.hid (fun j x hx => mkList_get PolicyR k xs j x hx)
  rw [mkList_len] at h ⊢
  generalize hn : xs.length = n at *
  have Hn := Lib.hid hn
  generalize hN : cntList PolicyR xs = N at *
  have HN := Lib.hid hN
  clear hn hN hm
  go_enter Tryd.func14, Tryd.ntmps14
  go_wp2
  go_loopw [1, 5] (fun kk i wr => ∃ (j q : Nat), j ≤ n ∧ i = .int .i64 j ∧ kk = .int .i64 ((k : Int) + (q : Int)) ∧ Hid (q = cntList PolicyR (xs.take j)) ∧ Below w.heap.size w wr) (fun _ i _ => n - (intOf i).toNat)
  case atStart => exact ⟨0, 0, Nat.zero_le _, rfl, by simp, rfl, Below.refl _ _⟩
  case round =>
    obtain ⟨j, q, hj, rfl, rfl, hq, hb⟩ := hrel
    have hzr := hb.size
    by_cases hlt : j < n
    · have hlx : j < xs.length := by rw [Hn.out]; exact hlt
      have hx := List.getElem?_eq_getElem hlx
      generalize xs[j]'hlx = x at hx
      have hqb := HT.out j x hx
      have hsz := HSz.out j x hx
      have hmx := HM.out j x hx
      rw [← hq.out] at hqb hmx
      have HX := Lib.hid hx
      clear hx
      obtain ⟨b, off, cs, rfl, hab, hrd, hcell⟩ := h.elem hmx
      rw [mark1_Policy] at hrd
      rw [show q + PolicyR.cnt x = q + 1 + cntList RuleR x.Rules from cnt1_Policy x q] at hqb
      clear hmx
      obtain ⟨_, rfl, E0, bName⟩ := rd_Policy hrd
      obtain ⟨A0, c0, rfl⟩ := E0.form
      have hcq0 := cnt_bd_RuleS x.Rules
      rw [sz_Policy] at hsz
      have C := Lib.hid (fun (w' : World) (hb' : Below w.heap.size w w') (i : Nat) (u : Value) (hu : [.string (markT (k + q)), .slice A0 (mkList RuleR (k + q + 1) x.Rules).length c0][i]? = some u) => (hb'.cell (p := ⟨b, off + (j * 2 + i), none⟩) hab).trans (hcell i u (by push_cast; exact hu)))
      clear hcell
      have hd0_ : wr.cell? ⟨b, off + j * 2, none⟩ = some (.string (markT (k + q))) := C.out _ hb 0 _ rfl
      have hd1_ : wr.cell? ⟨b, off + j * 2 + 1, none⟩ = some (.slice A0 (mkList RuleR (k + q + 1) x.Rules).length c0) := C.out _ hb 1 _ rfl
      have HC1 := Lib.hid (fun w' => Calls.cast (args' := #[.int .i64 ((k : Int) + (q : Int))]) (by push_cast; rfl) (laws_markText (k + q) w' (by omega) (by omega)))
      generalize hT1 : markT (k + q) = T1 at *
      clear hT1
      go_wp2
      go_region_held3 (fun w' => w'.cell? ⟨b, off + j * 2, none⟩ = some (.string T1))
        (first | exact C.out _ (by (repeat (first | (with_reducible exact Below.refl _ _) | (with_reducible assumption) | ((with_reducible refine Below.setCell ?_ ?_ _); rotate_left; focus (first | omega | (simp; done) | (simp; omega))) | ((with_reducible refine Below.alloc ?_ ?_ _); rotate_left; focus (first | omega | (simp; done) | (simp; omega))) | (with_reducible refine Below.drew ?_) | (with_reducible refine below_drewN ?_ _) | (refine Below.trans ?_ (Below.mono (by with_reducible assumption) (by (first | omega | (simp; done) | (simp; omega)))))))) 0 _ rfl)
        (first | (go_at_call 30; ((with_reducible refine (HC1.out _).mono ?_)); rintro e w1 ⟨rfl, hb1⟩; have hz1 := hb1.size; try simp at hz1))
      have hbw1 : Below w.heap.size w w1 := by (repeat (first | (with_reducible exact Below.refl _ _) | (with_reducible assumption) | ((with_reducible refine Below.setCell ?_ ?_ _); rotate_left; focus (first | omega | (simp; done) | (simp; omega))) | ((with_reducible refine Below.alloc ?_ ?_ _); rotate_left; focus (first | omega | (simp; done) | (simp; omega))) | (with_reducible refine Below.drew ?_) | (with_reducible refine below_drewN ?_ _) | (refine Below.trans ?_ (Below.mono (by with_reducible assumption) (by (first | omega | (simp; done) | (simp; omega)))))))
      have hd1_ : w1.cell? ⟨b, off + j * 2 + 1, none⟩ = some (.slice A0 (mkList RuleR (k + q + 1) x.Rules).length c0) := C.out _ hbw1 1 _ rfl
      go_wp2_with fail
      refine (Calls.cast (by push_cast; rfl) (held2_RuleS _ _ (k + q + 1) _ (E0.keep (by (repeat (first | (with_reducible exact Below.refl _ _) | (with_reducible assumption) | ((with_reducible refine Below.setCell ?_ ?_ _); rotate_left; focus (first | omega | (simp; done) | (simp; omega))) | ((with_reducible refine Below.alloc ?_ ?_ _); rotate_left; focus (first | omega | (simp; done) | (simp; omega))) | (with_reducible refine Below.drew ?_) | (with_reducible refine below_drewN ?_ _) | (refine Below.trans ?_ (Below.mono (by with_reducible assumption) (by (first | omega | (simp; done) | (simp; omega)))))))) (by first | omega | (simp; done) | (simp; omega))) (by omega : szList RuleR x.Rules ≤ 2097152) (by omega) (by omega))).mono ?_
      rintro e w2 ⟨rfl, hb2⟩
      have hz2 := hb2.size; try simp at hz2
      have hbw2 : Below w.heap.size w w2 := by (repeat (first | (with_reducible exact Below.refl _ _) | (with_reducible assumption) | ((with_reducible refine Below.setCell ?_ ?_ _); rotate_left; focus (first | omega | (simp; done) | (simp; omega))) | ((with_reducible refine Below.alloc ?_ ?_ _); rotate_left; focus (first | omega | (simp; done) | (simp; omega))) | (with_reducible refine Below.drew ?_) | (with_reducible refine below_drewN ?_ _) | (refine Below.trans ?_ (Below.mono (by with_reducible assumption) (by (first | omega | (simp; done) | (simp; omega)))))))
      have hps2 : (0 : Int) ≤ ((k + q + 1 + cntList RuleR x.Rules : Nat) : Int) := by omega
      push_cast at hps2
      go_wp2
      go_roundw
      case rel =>
        refine ⟨j + 1, q + PolicyR.cnt x, by omega, by go_num, ?_, Lib.hid (by rw [cntList_snoc PolicyR HX.out, hq.out]), by (repeat (first | (with_reducible exact Below.refl _ _) | (with_reducible assumption) | ((with_reducible refine Below.setCell ?_ ?_ _); rotate_left; focus (first | omega | (simp; done) | (simp; omega))) | ((with_reducible refine Below.alloc ?_ ?_ _); rotate_left; focus (first | omega | (simp; done) | (simp; omega))) | (with_reducible refine Below.drew ?_) | (with_reducible refine below_drewN ?_ _) | (refine Below.trans ?_ (Below.mono (by with_reducible assumption) (by (first | omega | (simp; done) | (simp; omega)))))))⟩
        have h1 := cnt1_Policy x q
        have h2 : ((q + PolicyR.cnt x : Nat) : Int) = ((q + 1 + cntList RuleR x.Rules : Nat) : Int) := by rw [h1]
        push_cast at h2 ⊢
        first | (rw [h2]; simp only [Int.add_assoc]) | (congr 1; omega)
      case measure => simp [intOf]; omega
    · obtain rfl : j = n := by omega
      have hq2 := hq.out
      rw [List.take_of_length_le (by rw [Hn.out]; exact Nat.le_refl _), HN.out] at hq2
      subst hq2
      go_wp2
      go_ret
      exact ⟨by first | rfl | (push_cast; rfl), hb⟩
end Go.Proofs.YtoijmnnjcoogkaaDoor

/- MakeToken of the reference. -/
import Derived.Test.YtcfhnhhgnophhaaPkMk
set_option linter.unusedSimpArgs false
set_option linter.unusedVariables false
set_option maxRecDepth 20000
namespace Go.Proofs.Ytcfhnhhgnophhaa
open Go.RowKit
set_option maxRecDepth 20000 in
set_option maxHeartbeats 6400000 in
theorem spec_MakeTokenL (cs : List Value) (f : Forest) (cst : List Value) (t : Token) (w : World) (h : ForestR.Rd w w.heap.size cs f) (h2 : TokenR.Rd w w.heap.size cst t) (hm : ForestR.sz f ≤ 1048576) (hm2 : TokenR.sz t ≤ 1048576) :
    Calls Try.prog 20 #[.agg cs.toArray, .agg cst.toArray] w fun e w' => ∃ cs', e = .returned (.tuple #[.agg cs'.toArray, .int .i64 (MakeC f.Tokens t)]) ∧ ForestR.Own w' (InR w.heap.size w'.heap.size) cs' ⟨MakeT f.Tokens t⟩ ∧ Below w.heap.size w w' := by
  obtain ⟨v0, rfl, q0⟩ := rd_Forest (_root_.id h)
  obtain ⟨A, c, rfl⟩ := q0.form
  obtain ⟨v1, rfl, q1⟩ := rd_Token (_root_.id h2)
  obtain ⟨At, ct, rfl⟩ := q1.form
  obtain ⟨-, hnr, -, -, hns⟩ := rd_StringS q1
  obtain ⟨i0, hi0, hz0', hz1', hz2'⟩ := info_parts info_Token
  have hnl : t.Names.length ≤ 1048576 := by rw [sz_Token, sz_StringS] at hm2; omega
  have hr := q0
  rw [sz_Forest] at hm
  have hml : f.Tokens.length ≤ 1048576 := Nat.le_trans (Nat.le_add_right _ _) hm
  generalize hT : f.Tokens = ts at *
  have HNm := Lib.hid (fun k s (h : ts[k]? = some s) => names_small hm h)
  have HAt := Lib.hid (fun (i : Int) (w' : World) (h : SlRd TokenR w' w'.heap.size (.slice A ts.length c) ts) => spec_l08At A c ts i w' h hm)
  have HCl := Lib.hid (fun (w' : World) (h : SlRd TokenR w' w'.heap.size (.slice A ts.length c) ts) => spec_l08Copy A c ts w' h hm)
  have HOk := Lib.hid (fun (b : Bool) (hb : forestOk ts = b) (w' : World) (h : SlRd TokenR w' w'.heap.size (.slice A ts.length c) ts) => (hb ▸ spec_ForestOk A c ts w' h hm : Calls Try.prog 8 #[.agg #[.slice A ts.length c]] w' fun e w'' => e = .returned (.bool b) ∧ Below w'.heap.size w' w''))
  have HTk := Lib.hid (fun (b : Bool) (hb : tokOk t = b) (w' : World) (h : Reads w' w'.heap.size At (t.Names.map strV)) => (hb ▸ spec_l08Token t At ct w' h hns (by omega) : Calls Try.prog 29 #[.agg #[.int .i64 t.Id, .int .i64 t.Parent, .slice At t.Names.length ct, .int .i64 t.Made, .int .i64 t.Ends, .int .i64 t.Limit, .int .i64 t.Uses]] w' fun e w'' => e = .returned (.bool b) ∧ Below w'.heap.size w' w''))
  have HNs := Lib.hid hns
  clear h h2 q1 hm2 hT q0 hns
  generalize hn : ts.length = n at *
  have Hn := Lib.hid hn
  clear hn hm
  go_enter Try.func20, Try.ntmps20
  go_wp2_with fail
  refine (HCl.out _ (hr.keep (by (repeat (first | (with_reducible exact Below.refl _ _) | (with_reducible assumption) | ((with_reducible refine Below.setCell ?_ ?_ _); rotate_left; focus (first | omega | (simp; done) | (simp; omega))) | ((with_reducible refine Below.alloc ?_ ?_ _); rotate_left; focus (first | omega | (simp; done) | (simp; omega))) | (with_reducible refine Below.drew ?_) | (with_reducible refine below_drewN ?_ _) | (refine Below.trans ?_ (Below.mono (by with_reducible assumption) (by (first | omega | (simp; done) | (simp; omega)))))))) (by first | omega | (simp; done) | (simp; omega)))).mono ?_
  rintro e w1 ⟨D, d, css, rfl, G, hb1⟩
  have hz1 := hb1.size; try simp at hz1
  have G0 := Lib.hid (G.base (lo' := w.heap.size + 3) (by simp))
  clear G
  have BK0 : Blk (w1.alloc (.cells #[.slice D n d] 26)) w.heap.size 26 #[.slice A n c] := by (repeat (first | (with_reducible assumption) | ((with_reducible refine Blk.new' ?_); focus (simp; done)) | (with_reducible refine Blk.alloc ?_ _) | (with_reducible refine Blk.drew ?_) | (with_reducible refine Blk.drewN ?_ _) | ((with_reducible refine Blk.far ?_ ?_ _); rotate_left; focus (first | omega | (simp; done) | (simp; omega))) | (refine Blk.keep ?_ (by with_reducible assumption)) | (refine Blk.below ?_ (by with_reducible assumption) (by (first | omega | (simp; done) | (simp; omega))))))
  have BKT : Blk (w1.alloc (.cells #[.slice D n d] 26)) (w.heap.size + 1) 35 #[.int .i64 t.Id, .int .i64 t.Parent, .slice At t.Names.length ct, .int .i64 t.Made, .int .i64 t.Ends, .int .i64 t.Limit, .int .i64 t.Uses] := by (repeat (first | (with_reducible assumption) | ((with_reducible refine Blk.new' ?_); focus (simp; done)) | (with_reducible refine Blk.alloc ?_ _) | (with_reducible refine Blk.drew ?_) | (with_reducible refine Blk.drewN ?_ _) | ((with_reducible refine Blk.far ?_ ?_ _); rotate_left; focus (first | omega | (simp; done) | (simp; omega))) | (refine Blk.keep ?_ (by with_reducible assumption)) | (refine Blk.below ?_ (by with_reducible assumption) (by (first | omega | (simp; done) | (simp; omega))))))
  have BK1 : Blk (w1.alloc (.cells #[.slice D n d] 26)) (w.heap.size + 1 + 1) 26 #[.slice none 0 0] := by (repeat (first | (with_reducible assumption) | ((with_reducible refine Blk.new' ?_); focus (simp; done)) | (with_reducible refine Blk.alloc ?_ _) | (with_reducible refine Blk.drew ?_) | (with_reducible refine Blk.drewN ?_ _) | ((with_reducible refine Blk.far ?_ ?_ _); rotate_left; focus (first | omega | (simp; done) | (simp; omega))) | (refine Blk.keep ?_ (by with_reducible assumption)) | (refine Blk.below ?_ (by with_reducible assumption) (by (first | omega | (simp; done) | (simp; omega))))))
  have BKO : Blk (w1.alloc (.cells #[.slice D n d] 26)) w1.heap.size 26 #[.slice D n d] := by (repeat (first | (with_reducible assumption) | ((with_reducible refine Blk.new' ?_); focus (simp; done)) | (with_reducible refine Blk.alloc ?_ _) | (with_reducible refine Blk.drew ?_) | (with_reducible refine Blk.drewN ?_ _) | ((with_reducible refine Blk.far ?_ ?_ _); rotate_left; focus (first | omega | (simp; done) | (simp; omega))) | (refine Blk.keep ?_ (by with_reducible assumption)) | (refine Blk.below ?_ (by with_reducible assumption) (by (first | omega | (simp; done) | (simp; omega))))))
  have hbW0 : Below w.heap.size w (w1.alloc (.cells #[.slice D n d] 26)) := by (repeat (first | (with_reducible exact Below.refl _ _) | (with_reducible assumption) | ((with_reducible refine Below.setCell ?_ ?_ _); rotate_left; focus (first | omega | (simp; done) | (simp; omega))) | ((with_reducible refine Below.alloc ?_ ?_ _); rotate_left; focus (first | omega | (simp; done) | (simp; omega))) | (with_reducible refine Below.drew ?_) | (with_reducible refine below_drewN ?_ _) | (refine Below.trans ?_ (Below.mono (by with_reducible assumption) (by (first | omega | (simp; done) | (simp; omega)))))))
  have hb1W : Below w1.heap.size w1 (w1.alloc (.cells #[.slice D n d] 26)) := by (repeat (first | (with_reducible exact Below.refl _ _) | (with_reducible assumption) | ((with_reducible refine Below.setCell ?_ ?_ _); rotate_left; focus (first | omega | (simp; done) | (simp; omega))) | ((with_reducible refine Below.alloc ?_ ?_ _); rotate_left; focus (first | omega | (simp; done) | (simp; omega))) | (with_reducible refine Below.drew ?_) | (with_reducible refine below_drewN ?_ _) | (refine Below.trans ?_ (Below.mono (by with_reducible assumption) (by (first | omega | (simp; done) | (simp; omega)))))))
  have hc0 := BK0.cell; have hf0 := BK0.frozen; have hl0 := BK0.lt; have hcT := BKT.cell; have hfT := BKT.frozen; have hlT := BKT.lt
  have hcO := BKO.cell; have hfO := BKO.frozen; have hlO := BKO.lt
  go_upto_region 2 with fail
  go_cut [38] (fun s38 wx => s38 = .bool (!forestOk ts || (!tokOk t || lastBig ts t)) ∧ Below (w1.alloc (.cells #[.slice D n d] 26)).heap.size (w1.alloc (.cells #[.slice D n d] 26)) wx)
  case first =>
    cases hF : forestOk ts
    · have HFk := Lib.hid hF
      have HI1 := Lib.hid (fun (n' : Lt (w1.alloc (.cells #[.slice D n d] 26))) => HOk.out false hF (later _ n') (hr.keep (hbW0.trans ((later_below _ n').mono hbW0.size)) (Nat.le_trans hbW0.size (later_below _ n').size)))
      generalize (w1.alloc (.cells #[.slice D n d] 26)) = W at *
      have q0 := BK0.later
      have q1 := BKT.later
      refine wp_region_later (by kernel_rfl) (by kernel_rfl) ?_
      repeat (first | go_big_quiet_step ((go_at_call 8; exact Calls.later_of (HI1.out _))) | quiet_step ((go_at_call 8; exact Calls.later_of (HI1.out _))))
      refine wpQuiet_nil ?_
      intro w3 hb3
      go_wp2_with fail
      go_meet
      exact ⟨by rw [HFk.out]; rfl, hb3⟩
    have HFk := Lib.hid hF
    have HI1 := Lib.hid (fun (n' : Lt (w1.alloc (.cells #[.slice D n d] 26))) => HOk.out true hF (later _ n') (hr.keep (hbW0.trans ((later_below _ n').mono hbW0.size)) (Nat.le_trans hbW0.size (later_below _ n').size)))
    cases hk : tokOk t
    · have HKt := Lib.hid hk
      have HI2 := Lib.hid (fun (n' : Lt (w1.alloc (.cells #[.slice D n d] 26))) => HTk.out false hk (later _ n') (hnr.keep (hbW0.trans ((later_below _ n').mono hbW0.size)) (Nat.le_trans hbW0.size (later_below _ n').size)))
      generalize (w1.alloc (.cells #[.slice D n d] 26)) = W at *
      have q0 := BK0.later
      have q1 := BKT.later
      refine wp_region_later (by kernel_rfl) (by kernel_rfl) ?_
      repeat (first | go_big_quiet_step ((first | (go_at_call 8; exact Calls.later_of (HI1.out _)) | (go_at_call 29; exact Calls.later_of (HI2.out _)))) | quiet_step ((first | (go_at_call 8; exact Calls.later_of (HI1.out _)) | (go_at_call 29; exact Calls.later_of (HI2.out _)))))
      refine wpQuiet_nil ?_
      intro w3 hb3
      go_wp2_with fail
      go_meet
      exact ⟨by rw [HFk.out, HKt.out]; rfl, hb3⟩
    · have HKt := Lib.hid hk
      have HI2 := Lib.hid (fun (n' : Lt (w1.alloc (.cells #[.slice D n d] 26))) => HTk.out true hk (later _ n') (hnr.keep (hbW0.trans ((later_below _ n').mono hbW0.size)) (Nat.le_trans hbW0.size (later_below _ n').size)))
      by_cases h0 : 0 < n
      · have hs1 : n - 1 < ts.length := by rw [Hn.out]; omega
        have HS := Lib.hid (List.getElem?_eq_getElem hs1)
        generalize ts[n - 1]'hs1 = s at HS
        clear hs1
        obtain ⟨b, off, An, cn, rfl, hab, hnm, hq0, -⟩ := tok_elem (hr.below hbW0 (Nat.le_refl _)) HS.out
        clear hnm
        have hd0 : decide ((0 : Int) < (n : Int)) = true := by simpa using h0
        have HL := Lib.hid (lastBig_at (t := t) (by rw [Hn.out]; exact HS.out))
        cases hb : decide (t.Id ≤ s.Id)
        all_goals
          have HB := Lib.hid hb
          generalize (w1.alloc (.cells #[.slice D n d] 26)) = W at *
          have q0 := BK0.later
          have q1 := BKT.later
          have q2 := later_cell hq0
          refine wp_region_later (by kernel_rfl) (by kernel_rfl) ?_
          repeat (first | go_big_quiet_step ((first | (go_at_call 8; exact Calls.later_of (HI1.out _)) | (go_at_call 29; exact Calls.later_of (HI2.out _)))) | quiet_step ((first | (go_at_call 8; exact Calls.later_of (HI1.out _)) | (go_at_call 29; exact Calls.later_of (HI2.out _)))))
          refine wpQuiet_nil ?_
          intro w3 hb3
          go_wp2_with fail
          go_meet
          exact ⟨by rw [HFk.out, HKt.out, HL.out, HB.out]; rfl, hb3⟩
      · have h00 : n = 0 := by omega
        have HL := Lib.hid (lastBig_zero (t := t) (by rw [Hn.out]; exact h00))
        have hd0 : decide ((0 : Int) < (n : Int)) = false := by simpa using h0
        have hd1 : decide (0 < n) = false := by simpa using h0
        clear h00 h0
        generalize (w1.alloc (.cells #[.slice D n d] 26)) = W at *
        have q0 := BK0.later
        have q1 := BKT.later
        refine wp_region_later (by kernel_rfl) (by kernel_rfl) ?_
        repeat (first | go_big_quiet_step ((first | (go_at_call 8; exact Calls.later_of (HI1.out _)) | (go_at_call 29; exact Calls.later_of (HI2.out _)))) | quiet_step ((first | (go_at_call 8; exact Calls.later_of (HI1.out _)) | (go_at_call 29; exact Calls.later_of (HI2.out _)))))
        refine wpQuiet_nil ?_
        intro w3 hb3
        go_wp2_with fail
        go_meet
        exact ⟨by rw [HFk.out, HKt.out, HL.out]; rfl, hb3⟩
  case rest =>
    obtain ⟨rfl, hb3⟩ := hcut
    obtain ⟨w3, hw3⟩ : ∃ w_, w_ = wc := ⟨_, rfl⟩
    subst hw3
    have hz3 := hb3.size
    simp at hz3
    have hbK : Below w1.heap.size w1 w3 := hb1W.trans (hb3.mono hb1W.size)
    have hbwK : Below w.heap.size w w3 := hbW0.trans (hb3.mono hbW0.size)
    replace BK0 := BK0.keep hb3; replace BKT := BKT.keep hb3; replace BK1 := BK1.keep hb3; replace BKO := BKO.keep hb3
    replace hc0 := BK0.cell; replace hf0 := BK0.frozen; replace hl0 := BK0.lt; replace hcT := BKT.cell; replace hfT := BKT.frozen; replace hlT := BKT.lt
    replace hcO := BKO.cell; replace hfO := BKO.frozen; replace hlO := BKO.lt
    have hc1 := BK1.cell; have hf1 := BK1.frozen; have hl1 := BK1.lt
    clear hb1W hb3 hbW0
    cases hbad : (!forestOk ts || (!tokOk t || lastBig ts t))
    rotate_left
    · have HN : Hid (MakeC ts t = 1 ∧ MakeT ts t = ts) := Lib.hid (by
        cases hF : forestOk ts
        · exact Make_bad hF
        · rw [(Make_good hF).1, (Make_good hF).2]
          cases hk : tokOk t
          · exact make_bad1 hk
          · rw [hF, hk] at hbad; exact make_bad2 (by simpa using hbad))
      clear hbad
      go_wp2
      refine bodyPost_ret (v := .tuple #[.agg #[.slice D n d], .int .i64 1]) (by simp [results, Try.results20, go_sem, hc1, hf1]) rfl ⟨[.slice D n d], by rw [HN.out.1], ?_, by (repeat (first | (with_reducible exact Below.refl _ _) | (with_reducible assumption) | ((with_reducible refine Below.setCell ?_ ?_ _); rotate_left; focus (first | omega | (simp; done) | (simp; omega))) | ((with_reducible refine Below.alloc ?_ ?_ _); rotate_left; focus (first | omega | (simp; done) | (simp; omega))) | (with_reducible refine Below.drew ?_) | (with_reducible refine below_drewN ?_ _) | (refine Below.trans ?_ (Below.mono (by with_reducible assumption) (by (first | omega | (simp; done) | (simp; omega)))))))⟩
      rw [HN.out.2]
      exact ForestR.own_wide (ForestR.own_off (ForestR.own_keep G0.out.forest hbK) (by (repeat (first | (with_reducible exact Out.refl _ _) | (with_reducible assumption) | ((with_reducible refine Out.setCell ?_ ?_ _); rotate_left; focus (first | (refine Or.inl ?_; (first | omega | (simp; done) | (simp; omega))) | (refine Or.inr ?_; (first | omega | (simp; done) | (simp; omega))))) | (with_reducible refine Out.alloc ?_ _) | (with_reducible refine Out.drew ?_) | (with_reducible refine Out.drewN ?_ _) | (refine Out.step ?_ (by with_reducible assumption)))))) (inR_mono (by first | omega | (simp; done) | (simp; omega)) (by first | omega | (simp; done) | (simp; omega)))
    have hF : forestOk ts = true := by cases hF : forestOk ts <;> rw [hF] at hbad <;> first | rfl | (exact absurd hbad (by simp))
    have hk : tokOk t = true := by cases hk : tokOk t <;> rw [hF, hk] at hbad <;> first | rfl | (exact absurd hbad (by simp))
    have hl : lastBig ts t = false := by rw [hF, hk] at hbad; simpa using hbad
    have HGd := Lib.hid (Make_good (t := t) hF)
    clear hbad hF
    cases hp : t.Parent == 0
    rotate_left
    · have HC := Lib.hid (make_top hk hl hp)
      have hp1 : (t.Parent != 0) = false := by simp only [bne, hp]; rfl
      clear hk hl
      by_cases hf : n = 120
      · subst hf
        have HN := Lib.hid (make_full HC.out (by rw [Hn.out]; rfl))
        go_wp2
        refine bodyPost_ret (v := .tuple #[.agg #[.slice D 120 d], .int .i64 5]) (by simp [results, Try.results20, go_sem, hc1, hf1]) rfl ⟨[.slice D 120 d], by rw [HGd.out.1, HN.out.1], ?_, by (repeat (first | (with_reducible exact Below.refl _ _) | (with_reducible assumption) | ((with_reducible refine Below.setCell ?_ ?_ _); rotate_left; focus (first | omega | (simp; done) | (simp; omega))) | ((with_reducible refine Below.alloc ?_ ?_ _); rotate_left; focus (first | omega | (simp; done) | (simp; omega))) | (with_reducible refine Below.drew ?_) | (with_reducible refine below_drewN ?_ _) | (refine Below.trans ?_ (Below.mono (by with_reducible assumption) (by (first | omega | (simp; done) | (simp; omega)))))))⟩
        rw [HGd.out.2, HN.out.2]
        exact ForestR.own_wide (ForestR.own_off (ForestR.own_keep G0.out.forest hbK) (by (repeat (first | (with_reducible exact Out.refl _ _) | (with_reducible assumption) | ((with_reducible refine Out.setCell ?_ ?_ _); rotate_left; focus (first | (refine Or.inl ?_; (first | omega | (simp; done) | (simp; omega))) | (refine Or.inr ?_; (first | omega | (simp; done) | (simp; omega))))) | (with_reducible refine Out.alloc ?_ _) | (with_reducible refine Out.drew ?_) | (with_reducible refine Out.drewN ?_ _) | (refine Out.step ?_ (by with_reducible assumption)))))) (inR_mono (by first | omega | (simp; done) | (simp; omega)) (by first | omega | (simp; done) | (simp; omega)))
      have HN := Lib.hid (make_done HC.out (by rw [Hn.out]; exact beq_false_of_ne hf))
      have hfd : decide ((n : Int) = 120) = false := decide_eq_false (by omega)
      have hrow : w1.ownsRow (w.heap.size + 3) 35 7 (.slice D n d) n css.flatten := G0.out.row
      generalize hcf : css.flatten = cf at hrow
      have HCf := Lib.hid hcf
      clear hcf
      have hneO : some w1.heap.size ≠ (Value.slice D n d).ownBlock := fun e => by have := (hrow.lt _ e.symm).2; omega
      have hneR : some (w.heap.size + 1 + 1) ≠ (Value.slice D n d).ownBlock := fun e => by have := (hrow.lt _ e.symm).1; omega
      go_wp2_with fail
      have hbW : Below w1.heap.size w1 w3.drew := Below.drew hbK
      have hbWw : Below w.heap.size w w3.drew := Below.drew hbwK
      have BX2 : Blk w3.drew w1.heap.size 26 #[.slice D n d] := BKO.drew
      have hcx := BX2.cell; have hfx := BX2.frozen
      have BR2 : Blk w3.drew (w.heap.size + 1 + 1) 26 #[.slice none 0 0] := BK1.drew
      have BT2 : Blk w3.drew (w.heap.size + 1) 35 #[.int .i64 t.Id, .int .i64 t.Parent, .slice At t.Names.length ct, .int .i64 t.Made, .int .i64 t.Ends, .int .i64 t.Limit, .int .i64 t.Uses] := BKT.drew
      have hcT := BT2.cell
      have hzD : (w3.drew).heap.size = w3.heap.size := by simp
      have hrW : Reads w3.drew (w3.drew).heap.size At (t.Names.map strV) := hnr.keep hbWw (by omega)
      have hro : World.ownsRow w3.drew (w.heap.size + 3) 35 7 (.slice D n d) n cf := own_below hrow hbW
      go_region_law (first | (refine step_append_lies _ (by rfl) _ _ _ (by rfl) (w.heap.size + 3) 35 i0 _ 7 72 Try.underlying24 hi0 hz0' hz1' hz2' rfl (by omega) (.slice D n d) n cf (by rfl) ((own_below hro hb2x).alloc _) ⟨w2x.heap.size, 0, none⟩ 1 1 [.int .i64 t.Id, .int .i64 t.Parent, .slice D2 t.Names.length d2, .int .i64 t.Made, .int .i64 t.Ends, .int .i64 t.Limit, .int .i64 t.Uses] (by rfl) (by rfl) (World.news_of_block (cs := #[.int .i64 t.Id, .int .i64 t.Parent, .slice D2 t.Names.length d2, .int .i64 t.Made, .int .i64 t.Ends, .int .i64 t.Limit, .int .i64 t.Uses]) (t := 35) (fr := (0, 0)) (heap_alloc_new w2x _)) (by simp [Value.oneCell']) (by omega) (by simp only [maxLen]; omega) (by omega) (by simp; omega) (w2x.heap.size + 1) (by simp) ?_; intro gg cap w3x hown1 hgrow hat hlt1; have BY := Blk.grown (BX3.alloc (.cells #[.int .i64 t.Id, .int .i64 t.Parent, .slice D2 t.Names.length d2, .int .i64 t.Made, .int .i64 t.Ends, .int .i64 t.Limit, .int .i64 t.Uses] 35)) hgrow hneO; have hcY := BY.cell; have hfY := BY.frozen; have BZ := Blk.grown (BR3.alloc (.cells #[.int .i64 t.Id, .int .i64 t.Parent, .slice D2 t.Names.length d2, .int .i64 t.Made, .int .i64 t.Ends, .int .i64 t.Limit, .int .i64 t.Uses] 35)) hgrow hneR; have hcZ := BZ.cell; have hfZ := BZ.frozen) | (go_simp; go_at_call 36; refine (spec_l08CopyToken t At ct _ hrW (by omega)).mono ?_; rintro e w2x ⟨D2, d2, rfl, hox, hb2x⟩; have hsz2 := hb2x.size; have BX3 := BX2.keep hb2x; have hc3 := BX3.cell; have hf3 := BX3.frozen; have BR3 := BR2.keep hb2x; have BX4 := BX3.alloc (.cells #[.int .i64 t.Id, .int .i64 t.Parent, .slice D2 t.Names.length d2, .int .i64 t.Made, .int .i64 t.Ends, .int .i64 t.Limit, .int .i64 t.Uses] 35); have hc4 := BX4.cell; have hf4 := BX4.frozen))
      all_goals
        have hbA : Below w3.heap.size w3 (w2x.alloc (.cells #[.int .i64 t.Id, .int .i64 t.Parent, .slice D2 t.Names.length d2, .int .i64 t.Made, .int .i64 t.Ends, .int .i64 t.Limit, .int .i64 t.Uses] 35)) := Below.alloc ((Below.drew (Below.refl _ _)).trans (hb2x.mono (by omega))) (by omega) _
        have hoA := TokenR.own_keep (own_Token_row hox HNs.out) ((Below.refl _ w2x).alloc (Nat.le_refl _) (.cells #[.int .i64 t.Id, .int .i64 t.Parent, .slice D2 t.Names.length d2, .int .i64 t.Made, .int .i64 t.Ends, .int .i64 t.Limit, .int .i64 t.Uses] 35))
        have hS := Grow.snocOwn G0.out hbK hbA hoA (by omega) (by simp) (by omega) (by rw [HCf.out]; exact hown1) hgrow (hat.imp_right (fun h => by simpa using h)) (by decide)
        have hzg := hgrow.size
        have hzg2 : w2x.heap.size + 1 ≤ w3x.heap.size := by simpa using hzg
        have hrowlt : ∀ q, (Value.slice D n d).ownBlock = some q → w.heap.size + 3 ≤ q := fun q e => (hrow.lt q e).1
        have hbG : Below w.heap.size w w3x := Below.grown (hbwK.trans (hbA.mono (by omega))) hgrow (by simp; omega) (fun q e => by have := hrowlt q e; omega)
        have e1 : n + 1 = (ts ++ [t]).length := by rw [List.length_append, Hn.out]; rfl
        have hS2 := hS.out (w' := (w3x.setCell ⟨w1.heap.size, 0, none⟩ (.slice (some ⟨gg, 0, none⟩) (n + 1) cap)).setCell ⟨w.heap.size + 1 + 1, 0, none⟩ (.slice (some ⟨gg, 0, none⟩) (n + 1) cap)) (Out.setCell (S := fun q => q = w1.heap.size ∨ q = w.heap.size + 1 + 1) (Out.setCell (Out.refl _ _) (p := ⟨w1.heap.size, 0, none⟩) (Or.inl rfl) _) (p := ⟨w.heap.size + 1 + 1, 0, none⟩) (Or.inr rfl) _) (fun g hg hg2 => by rcases hg with hg | hg <;> (have h5 := hg.1; have h6 := hg.2; rcases hg2 with hg2 | hg2 <;> omega))
        have hsub : ∀ g, (InR (w.heap.size + 3) w1.heap.size g ∨ InR w3.heap.size w3x.heap.size g) → InR w.heap.size w3x.heap.size g := by
          intro g hg
          rcases hg with hg | hg
          · exact ⟨by have := hg.1; omega, by have := hg.2; omega⟩
          · exact ⟨by have := hg.1; omega, by have := hg.2; omega⟩
        rw [e1] at hS2
        have HO := Lib.hid (of_own_Forest (x := ⟨ts ++ [t]⟩) hS2 hsub)
        rw [← e1] at HO
        clear hS hS2 e1 hsub
        go_wp2
        refine bodyPost_ret (v := .tuple #[.agg #[.slice (some ⟨gg, 0, none⟩) (n + 1) cap], .int .i64 0]) (by simp [results, Try.results20, go_sem, hcY, hfY, hcZ, hfZ]) rfl ⟨[.slice (some ⟨gg, 0, none⟩) (n + 1) cap], by rw [HGd.out.1, HN.out.1], ?_, by (repeat (first | (with_reducible exact Below.refl _ _) | (with_reducible assumption) | ((with_reducible refine Below.setCell ?_ ?_ _); rotate_left; focus (first | omega | (simp; done) | (simp; omega))) | ((with_reducible refine Below.alloc ?_ ?_ _); rotate_left; focus (first | omega | (simp; done) | (simp; omega))) | (with_reducible refine Below.drew ?_) | (with_reducible refine below_drewN ?_ _) | (refine Below.trans ?_ (Below.mono (by with_reducible assumption) (by (first | omega | (simp; done) | (simp; omega)))))))⟩
        rw [HGd.out.2, HN.out.2]
        exact ForestR.own_wide HO.out (inR_mono (by first | omega | (simp; done) | (simp; omega)) (by first | omega | (simp; done) | (simp; omega)))
    have hp1 : (t.Parent != 0) = true := by simp only [bne, hp]; rfl
    have HNone := Lib.hid (fun hx => make_none hk hl hp hx)
    have HOver := Lib.hid (fun (i : Nat) (s : Token) (e1 : idxT ts t.Parent = i) (e2 : ts[i]? = some s) ho => make_over hk hl hp e1 e2 ho)
    have HMiss := Lib.hid (fun (i : Nat) (s : Token) (e1 : idxT ts t.Parent = i) (e2 : ts[i]? = some s) ho hm => make_miss hk hl hp e1 e2 ho hm)
    have HFits := Lib.hid (fun (i : Nat) (s : Token) (e1 : idxT ts t.Parent = i) (e2 : ts[i]? = some s) ho hm => make_fits hk hl hp e1 e2 ho hm)
    clear hk hl
    have hrw3 : SlRd TokenR w3 w3.heap.size (.slice A n c) ts := hr.keep hbwK hbwK.size
    go_wp2_with fail
    refine (HAt.out t.Parent _ hrw3).mono ?_
    rintro e w4 ⟨rfl, hb4⟩
    have hz4 := hb4.size
    replace hbK : Below w1.heap.size w1 w4 := hbK.trans (hb4.mono hbK.size)
    replace hbwK : Below w.heap.size w w4 := hbwK.trans (hb4.mono hbwK.size)
    replace BK0 := BK0.keep hb4; replace BKT := BKT.keep hb4; replace BK1 := BK1.keep hb4; replace BKO := BKO.keep hb4
    replace hc0 := BK0.cell; replace hf0 := BK0.frozen; replace hl0 := BK0.lt; replace hcT := BKT.cell; replace hfT := BKT.frozen; replace hlT := BKT.lt
    replace hcO := BKO.cell; replace hfO := BKO.frozen; replace hlO := BKO.lt
    replace hc1 := BK1.cell; replace hf1 := BK1.frozen; replace hl1 := BK1.lt
    by_cases hx : idxT ts t.Parent < 0
    · have HN := Lib.hid (HNone.out hx)
      go_wp2
      refine bodyPost_ret (v := .tuple #[.agg #[.slice D n d], .int .i64 2]) (by simp [results, Try.results20, go_sem, hc1, hf1]) rfl ⟨[.slice D n d], by rw [HGd.out.1, HN.out.1], ?_, by (repeat (first | (with_reducible exact Below.refl _ _) | (with_reducible assumption) | ((with_reducible refine Below.setCell ?_ ?_ _); rotate_left; focus (first | omega | (simp; done) | (simp; omega))) | ((with_reducible refine Below.alloc ?_ ?_ _); rotate_left; focus (first | omega | (simp; done) | (simp; omega))) | (with_reducible refine Below.drew ?_) | (with_reducible refine below_drewN ?_ _) | (refine Below.trans ?_ (Below.mono (by with_reducible assumption) (by (first | omega | (simp; done) | (simp; omega)))))))⟩
      rw [HGd.out.2, HN.out.2]
      exact ForestR.own_wide (ForestR.own_off (ForestR.own_keep G0.out.forest hbK) (by (repeat (first | (with_reducible exact Out.refl _ _) | (with_reducible assumption) | ((with_reducible refine Out.setCell ?_ ?_ _); rotate_left; focus (first | (refine Or.inl ?_; (first | omega | (simp; done) | (simp; omega))) | (refine Or.inr ?_; (first | omega | (simp; done) | (simp; omega))))) | (with_reducible refine Out.alloc ?_ _) | (with_reducible refine Out.drew ?_) | (with_reducible refine Out.drewN ?_ _) | (refine Out.step ?_ (by with_reducible assumption)))))) (inR_mono (by first | omega | (simp; done) | (simp; omega)) (by first | omega | (simp; done) | (simp; omega)))
    obtain ⟨i, s, e1, e2, e3⟩ := tok_at (Int.not_lt.1 hx)
    have hi := idxT_small e1
    rw [Hn.out] at hi
    have hps := HNm.out i s e2
    obtain ⟨b, off, An, cn, rfl, hab, hnm, ha0, ha1, ha2, ha3, ha4, ha5, ha6⟩ := tok_elem (hr.below hbwK (Nat.le_refl _)) e2
    obtain ⟨-, hnp, -, -, -⟩ := rd_StringS hnm
    have HO3 := Lib.hid (fun ho => HOver.out i s e1 e2 ho)
    have HM3 := Lib.hid (fun ho hm => HMiss.out i s e1 e2 ho hm)
    have HF3 := Lib.hid (fun ho hm => HFits.out i s e1 e2 ho hm)
    have hd : decide ((i : Int) < 0) = false := by simp
    rw [e1] at hx ⊢
    clear e1 e2 e3 hnm
    cases ho : overB s.Ends t.Made
    rotate_left
    · have HN := Lib.hid (HO3.out ho)
      have HV := Lib.hid (fun (n' : Lt w4) => spec_l08Over_b ho An cn (later _ n'))
      go_wp2_with fail
      have q0 := BK0.later; have q1 := BKT.later
      have a0 := later_cell ha0; have a1 := later_cell ha1; have a2 := later_cell ha2; have a3 := later_cell ha3; have a4 := later_cell ha4; have a5 := later_cell ha5; have a6 := later_cell ha6
      refine wp_region_later (by kernel_rfl) (by kernel_rfl) ?_
      repeat (first | go_big_quiet_step ((go_at_call 47; exact Calls.later_of (HV.out _))) | quiet_step ((go_at_call 47; exact Calls.later_of (HV.out _))))
      refine wpQuiet_nil ?_
      intro w5 hb5
      clear q0 q1 a0 a1 a2 a3 a4 a5 a6
      have hz5 := hb5.size
      replace hbK : Below w1.heap.size w1 w5 := hbK.trans (hb5.mono hbK.size)
      replace hbwK : Below w.heap.size w w5 := hbwK.trans (hb5.mono hbwK.size)
      replace BK0 := BK0.keep hb5; replace BKT := BKT.keep hb5; replace BK1 := BK1.keep hb5; replace BKO := BKO.keep hb5
      replace hc0 := BK0.cell; replace hf0 := BK0.frozen; replace hl0 := BK0.lt; replace hcT := BKT.cell; replace hfT := BKT.frozen; replace hlT := BKT.lt
      replace hcO := BKO.cell; replace hfO := BKO.frozen; replace hlO := BKO.lt
      replace hc1 := BK1.cell; replace hf1 := BK1.frozen; replace hl1 := BK1.lt
      go_wp2
      refine bodyPost_ret (v := .tuple #[.agg #[.slice D n d], .int .i64 3]) (by simp [results, Try.results20, go_sem, hc1, hf1]) rfl ⟨[.slice D n d], by rw [HGd.out.1, HN.out.1], ?_, by (repeat (first | (with_reducible exact Below.refl _ _) | (with_reducible assumption) | ((with_reducible refine Below.setCell ?_ ?_ _); rotate_left; focus (first | omega | (simp; done) | (simp; omega))) | ((with_reducible refine Below.alloc ?_ ?_ _); rotate_left; focus (first | omega | (simp; done) | (simp; omega))) | (with_reducible refine Below.drew ?_) | (with_reducible refine below_drewN ?_ _) | (refine Below.trans ?_ (Below.mono (by with_reducible assumption) (by (first | omega | (simp; done) | (simp; omega)))))))⟩
      rw [HGd.out.2, HN.out.2]
      exact ForestR.own_wide (ForestR.own_off (ForestR.own_keep G0.out.forest hbK) (by (repeat (first | (with_reducible exact Out.refl _ _) | (with_reducible assumption) | ((with_reducible refine Out.setCell ?_ ?_ _); rotate_left; focus (first | (refine Or.inl ?_; (first | omega | (simp; done) | (simp; omega))) | (refine Or.inr ?_; (first | omega | (simp; done) | (simp; omega))))) | (with_reducible refine Out.alloc ?_ _) | (with_reducible refine Out.drew ?_) | (with_reducible refine Out.drewN ?_ _) | (refine Out.step ?_ (by with_reducible assumption)))))) (inR_mono (by first | omega | (simp; done) | (simp; omega)) (by first | omega | (simp; done) | (simp; omega)))
    have HV := Lib.hid (fun (n' : Lt w4) => spec_l08Over_b ho An cn (later _ n'))
    go_wp2_with fail
    have q0 := BK0.later; have q1 := BKT.later
    have a0 := later_cell ha0; have a1 := later_cell ha1; have a2 := later_cell ha2; have a3 := later_cell ha3; have a4 := later_cell ha4; have a5 := later_cell ha5; have a6 := later_cell ha6
    refine wp_region_later (by kernel_rfl) (by kernel_rfl) ?_
    repeat (first | go_big_quiet_step ((go_at_call 47; exact Calls.later_of (HV.out _))) | quiet_step ((go_at_call 47; exact Calls.later_of (HV.out _))))
    refine wpQuiet_nil ?_
    intro w5 hb5
    clear q0 q1 a0 a1 a2 a3 a4 a5 a6
    have hz5 := hb5.size
    have hx2 : w5.cell? ⟨b, off + i * 7 + 2, none⟩ = some (.slice An s.Names.length cn) := (hb5.cell (p := ⟨b, off + i * 7 + 2, none⟩) (by show b < _; omega)).trans ha2
    have hnp5 : Reads w5 w5.heap.size An (s.Names.map strV) := hnp.keep (hb5.mono (by omega)) (by omega)
    clear hnp ha0 ha1 ha2 ha3 ha4 ha5 ha6
    replace hbK : Below w1.heap.size w1 w5 := hbK.trans (hb5.mono hbK.size)
    replace hbwK : Below w.heap.size w w5 := hbwK.trans (hb5.mono hbwK.size)
    replace BK0 := BK0.keep hb5; replace BKT := BKT.keep hb5; replace BK1 := BK1.keep hb5; replace BKO := BKO.keep hb5
    replace hc0 := BK0.cell; replace hf0 := BK0.frozen; replace hl0 := BK0.lt; replace hcT := BKT.cell; replace hfT := BKT.frozen; replace hlT := BKT.lt
    replace hcO := BKO.cell; replace hfO := BKO.frozen; replace hlO := BKO.lt
    replace hc1 := BK1.cell; replace hf1 := BK1.frozen; replace hl1 := BK1.lt
    clear hb5 hrw3 hb4
    generalize hmn : t.Names.length = m at *
    have Hm := Lib.hid hmn
    clear hmn
    go_wp2
    go_loopw [8] (fun j wr => ∃ k : Nat, k ≤ m ∧ j = .int .i64 k ∧ Below w5.heap.size w5 wr ∧ Hid ((t.Names.take k).any (fun y => !hasT s.Names y) = false)) (fun j _ => m - (intOf j).toNat)
    case atStart => exact ⟨0, Nat.zero_le _, rfl, Below.refl _ _, Lib.hid rfl⟩
    case round =>
      obtain ⟨k, hk, rfl, hbr, hinv⟩ := hrel
      have hzr := hbr.size
      replace hbK : Below w1.heap.size w1 wr := hbK.trans (hbr.mono hbK.size)
      replace hbwK : Below w.heap.size w wr := hbwK.trans (hbr.mono hbwK.size)
      replace BK0 := BK0.keep hbr; replace BKT := BKT.keep hbr; replace BK1 := BK1.keep hbr; replace BKO := BKO.keep hbr
      replace hc0 := BK0.cell; replace hf0 := BK0.frozen; replace hl0 := BK0.lt; replace hcT := BKT.cell; replace hfT := BKT.frozen; replace hlT := BKT.lt
      replace hcO := BKO.cell; replace hfO := BKO.frozen; replace hlO := BKO.lt
      replace hc1 := BK1.cell; replace hf1 := BK1.frozen; replace hl1 := BK1.lt
      by_cases hlt : k < m
      · have hlx : k < t.Names.length := by rw [Hm.out]; exact hlt
        obtain ⟨b2, off2, rfl, hab2, hy⟩ := hnr.at_ (k := k) (by simpa using hlx) hbwK (Nat.le_refl _)
        rw [List.getElem_map] at hy
        have HG := Lib.hid (List.getElem?_eq_getElem hlx)
        generalize t.Names[k]'hlx = y at hy HG
        simp only [strV] at hy
        clear hlx
        have hxr : wr.cell? ⟨b, off + i * 7 + 2, none⟩ = some (.slice An s.Names.length cn) := (hbr.cell (p := ⟨b, off + i * 7 + 2, none⟩) (by show b < _; omega)).trans hx2
        cases hh : hasT s.Names y
        · have HH := Lib.hid hh
          have HN := Lib.hid (HM3.out ho (anyT_found HG.out (by rw [HH.out]; rfl)))
          have HV := Lib.hid (fun (n' : Lt wr) => (hh ▸ spec_l08HasText An cn s.Names y (later _ n') (hnp5.keep (hbr.trans ((later_below _ n').mono hbr.size)) (Nat.le_trans hbr.size (later_below _ n').size)) (by omega) : Calls Try.prog 48 #[.slice An s.Names.length cn, .string y] (later _ n') fun e w'' => e = .returned (.bool false) ∧ (later _ n') = w''))
          clear hh
          go_wp2_with fail
          have q0 := BK0.later; have q1 := BKT.later
          have a2 := later_cell hxr; have a3 := later_cell hy
          refine wp_region_later (by kernel_rfl) (by kernel_rfl) ?_
          repeat (first | go_big_quiet_step ((go_at_call 48; exact Calls.later_same (HV.out _))) | quiet_step ((go_at_call 48; exact Calls.later_same (HV.out _))))
          refine wpQuiet_nil ?_
          intro w6 hb6
          clear q0 q1 a2 a3
          have hz6 := hb6.size
          replace hbK : Below w1.heap.size w1 w6 := hbK.trans (hb6.mono hbK.size)
          replace hbwK : Below w.heap.size w w6 := hbwK.trans (hb6.mono hbwK.size)
          replace BK0 := BK0.keep hb6; replace BKT := BKT.keep hb6; replace BK1 := BK1.keep hb6; replace BKO := BKO.keep hb6
          replace hc0 := BK0.cell; replace hf0 := BK0.frozen; replace hl0 := BK0.lt; replace hcT := BKT.cell; replace hfT := BKT.frozen; replace hlT := BKT.lt
          replace hcO := BKO.cell; replace hfO := BKO.frozen; replace hlO := BKO.lt
          replace hc1 := BK1.cell; replace hf1 := BK1.frozen; replace hl1 := BK1.lt
          go_wp2
          refine bodyPost_ret (v := .tuple #[.agg #[.slice D n d], .int .i64 4]) (by simp [results, Try.results20, go_sem, hc1, hf1]) rfl ⟨[.slice D n d], by rw [HGd.out.1, HN.out.1], ?_, by (repeat (first | (with_reducible exact Below.refl _ _) | (with_reducible assumption) | ((with_reducible refine Below.setCell ?_ ?_ _); rotate_left; focus (first | omega | (simp; done) | (simp; omega))) | ((with_reducible refine Below.alloc ?_ ?_ _); rotate_left; focus (first | omega | (simp; done) | (simp; omega))) | (with_reducible refine Below.drew ?_) | (with_reducible refine below_drewN ?_ _) | (refine Below.trans ?_ (Below.mono (by with_reducible assumption) (by (first | omega | (simp; done) | (simp; omega)))))))⟩
          rw [HGd.out.2, HN.out.2]
          exact ForestR.own_wide (ForestR.own_off (ForestR.own_keep G0.out.forest hbK) (by (repeat (first | (with_reducible exact Out.refl _ _) | (with_reducible assumption) | ((with_reducible refine Out.setCell ?_ ?_ _); rotate_left; focus (first | (refine Or.inl ?_; (first | omega | (simp; done) | (simp; omega))) | (refine Or.inr ?_; (first | omega | (simp; done) | (simp; omega))))) | (with_reducible refine Out.alloc ?_ _) | (with_reducible refine Out.drew ?_) | (with_reducible refine Out.drewN ?_ _) | (refine Out.step ?_ (by with_reducible assumption)))))) (inR_mono (by first | omega | (simp; done) | (simp; omega)) (by first | omega | (simp; done) | (simp; omega)))
        · have HH := Lib.hid hh
          have HV := Lib.hid (fun (n' : Lt wr) => (hh ▸ spec_l08HasText An cn s.Names y (later _ n') (hnp5.keep (hbr.trans ((later_below _ n').mono hbr.size)) (Nat.le_trans hbr.size (later_below _ n').size)) (by omega) : Calls Try.prog 48 #[.slice An s.Names.length cn, .string y] (later _ n') fun e w'' => e = .returned (.bool true) ∧ (later _ n') = w''))
          clear hh
          go_wp2_with fail
          have q0 := BK0.later; have q1 := BKT.later
          have a2 := later_cell hxr; have a3 := later_cell hy
          refine wp_region_later (by kernel_rfl) (by kernel_rfl) ?_
          repeat (first | go_big_quiet_step ((go_at_call 48; exact Calls.later_same (HV.out _))) | quiet_step ((go_at_call 48; exact Calls.later_same (HV.out _))))
          refine wpQuiet_nil ?_
          intro w6 hb6
          clear q0 q1 a2 a3
          go_wp2
          go_roundw
          case rel => exact ⟨k + 1, by omega, by go_num, hbr.trans (hb6.mono hbr.size), Lib.hid (by rw [any_snoc HG.out, hinv.out, HH.out]; rfl)⟩
          case measure => simp [intOf]; omega
      · have HC := Lib.hid (HF3.out ho (anyT_none (by rw [Hm.out]; omega) hinv.out))
        have hkm : k = m := by omega
        subst hkm
        clear hx2 hnp5 hbr hinv
        have hmn := Hm.out
        subst hmn
        by_cases hf : n = 120
        · subst hf
          have HN := Lib.hid (make_full HC.out (by rw [Hn.out]; rfl))
          go_wp2
          refine bodyPost_ret (v := .tuple #[.agg #[.slice D 120 d], .int .i64 5]) (by simp [results, Try.results20, go_sem, hc1, hf1]) rfl ⟨[.slice D 120 d], by rw [HGd.out.1, HN.out.1], ?_, by (repeat (first | (with_reducible exact Below.refl _ _) | (with_reducible assumption) | ((with_reducible refine Below.setCell ?_ ?_ _); rotate_left; focus (first | omega | (simp; done) | (simp; omega))) | ((with_reducible refine Below.alloc ?_ ?_ _); rotate_left; focus (first | omega | (simp; done) | (simp; omega))) | (with_reducible refine Below.drew ?_) | (with_reducible refine below_drewN ?_ _) | (refine Below.trans ?_ (Below.mono (by with_reducible assumption) (by (first | omega | (simp; done) | (simp; omega)))))))⟩
          rw [HGd.out.2, HN.out.2]
          exact ForestR.own_wide (ForestR.own_off (ForestR.own_keep G0.out.forest hbK) (by (repeat (first | (with_reducible exact Out.refl _ _) | (with_reducible assumption) | ((with_reducible refine Out.setCell ?_ ?_ _); rotate_left; focus (first | (refine Or.inl ?_; (first | omega | (simp; done) | (simp; omega))) | (refine Or.inr ?_; (first | omega | (simp; done) | (simp; omega))))) | (with_reducible refine Out.alloc ?_ _) | (with_reducible refine Out.drew ?_) | (with_reducible refine Out.drewN ?_ _) | (refine Out.step ?_ (by with_reducible assumption)))))) (inR_mono (by first | omega | (simp; done) | (simp; omega)) (by first | omega | (simp; done) | (simp; omega)))
        have HN := Lib.hid (make_done HC.out (by rw [Hn.out]; exact beq_false_of_ne hf))
        have hfd : decide ((n : Int) = 120) = false := decide_eq_false (by omega)
        have hrow : w1.ownsRow (w.heap.size + 3) 35 7 (.slice D n d) n css.flatten := G0.out.row
        generalize hcf : css.flatten = cf at hrow
        have HCf := Lib.hid hcf
        clear hcf
        have hneO : some w1.heap.size ≠ (Value.slice D n d).ownBlock := fun e => by have := (hrow.lt _ e.symm).2; omega
        have hneR : some (w.heap.size + 1 + 1) ≠ (Value.slice D n d).ownBlock := fun e => by have := (hrow.lt _ e.symm).1; omega
        go_wp2_with fail
        have hbW : Below w1.heap.size w1 wr.drew := Below.drew hbK
        have hbWw : Below w.heap.size w wr.drew := Below.drew hbwK
        have BX2 : Blk wr.drew w1.heap.size 26 #[.slice D n d] := BKO.drew
        have hcx := BX2.cell; have hfx := BX2.frozen
        have BR2 : Blk wr.drew (w.heap.size + 1 + 1) 26 #[.slice none 0 0] := BK1.drew
        have BT2 : Blk wr.drew (w.heap.size + 1) 35 #[.int .i64 t.Id, .int .i64 t.Parent, .slice At t.Names.length ct, .int .i64 t.Made, .int .i64 t.Ends, .int .i64 t.Limit, .int .i64 t.Uses] := BKT.drew
        have hcT := BT2.cell
        have hzD : (wr.drew).heap.size = wr.heap.size := by simp
        have hrW : Reads wr.drew (wr.drew).heap.size At (t.Names.map strV) := hnr.keep hbWw (by omega)
        have hro : World.ownsRow wr.drew (w.heap.size + 3) 35 7 (.slice D n d) n cf := own_below hrow hbW
        go_region_law (first | (refine step_append_lies _ (by rfl) _ _ _ (by rfl) (w.heap.size + 3) 35 i0 _ 7 72 Try.underlying24 hi0 hz0' hz1' hz2' rfl (by omega) (.slice D n d) n cf (by rfl) ((own_below hro hb2x).alloc _) ⟨w2x.heap.size, 0, none⟩ 1 1 [.int .i64 t.Id, .int .i64 t.Parent, .slice D2 t.Names.length d2, .int .i64 t.Made, .int .i64 t.Ends, .int .i64 t.Limit, .int .i64 t.Uses] (by rfl) (by rfl) (World.news_of_block (cs := #[.int .i64 t.Id, .int .i64 t.Parent, .slice D2 t.Names.length d2, .int .i64 t.Made, .int .i64 t.Ends, .int .i64 t.Limit, .int .i64 t.Uses]) (t := 35) (fr := (0, 0)) (heap_alloc_new w2x _)) (by simp [Value.oneCell']) (by omega) (by simp only [maxLen]; omega) (by omega) (by simp; omega) (w2x.heap.size + 1) (by simp) ?_; intro gg cap w3x hown1 hgrow hat hlt1; have BY := Blk.grown (BX3.alloc (.cells #[.int .i64 t.Id, .int .i64 t.Parent, .slice D2 t.Names.length d2, .int .i64 t.Made, .int .i64 t.Ends, .int .i64 t.Limit, .int .i64 t.Uses] 35)) hgrow hneO; have hcY := BY.cell; have hfY := BY.frozen; have BZ := Blk.grown (BR3.alloc (.cells #[.int .i64 t.Id, .int .i64 t.Parent, .slice D2 t.Names.length d2, .int .i64 t.Made, .int .i64 t.Ends, .int .i64 t.Limit, .int .i64 t.Uses] 35)) hgrow hneR; have hcZ := BZ.cell; have hfZ := BZ.frozen) | (go_simp; go_at_call 36; refine (spec_l08CopyToken t At ct _ hrW (by omega)).mono ?_; rintro e w2x ⟨D2, d2, rfl, hox, hb2x⟩; have hsz2 := hb2x.size; have BX3 := BX2.keep hb2x; have hc3 := BX3.cell; have hf3 := BX3.frozen; have BR3 := BR2.keep hb2x; have BX4 := BX3.alloc (.cells #[.int .i64 t.Id, .int .i64 t.Parent, .slice D2 t.Names.length d2, .int .i64 t.Made, .int .i64 t.Ends, .int .i64 t.Limit, .int .i64 t.Uses] 35); have hc4 := BX4.cell; have hf4 := BX4.frozen))
        all_goals
          have hbA : Below wr.heap.size wr (w2x.alloc (.cells #[.int .i64 t.Id, .int .i64 t.Parent, .slice D2 t.Names.length d2, .int .i64 t.Made, .int .i64 t.Ends, .int .i64 t.Limit, .int .i64 t.Uses] 35)) := Below.alloc ((Below.drew (Below.refl _ _)).trans (hb2x.mono (by omega))) (by omega) _
          have hoA := TokenR.own_keep (own_Token_row hox HNs.out) ((Below.refl _ w2x).alloc (Nat.le_refl _) (.cells #[.int .i64 t.Id, .int .i64 t.Parent, .slice D2 t.Names.length d2, .int .i64 t.Made, .int .i64 t.Ends, .int .i64 t.Limit, .int .i64 t.Uses] 35))
          have hS := Grow.snocOwn G0.out hbK hbA hoA (by omega) (by simp) (by omega) (by rw [HCf.out]; exact hown1) hgrow (hat.imp_right (fun h => by simpa using h)) (by decide)
          have hzg := hgrow.size
          have hzg2 : w2x.heap.size + 1 ≤ w3x.heap.size := by simpa using hzg
          have hrowlt : ∀ q, (Value.slice D n d).ownBlock = some q → w.heap.size + 3 ≤ q := fun q e => (hrow.lt q e).1
          have hbG : Below w.heap.size w w3x := Below.grown (hbwK.trans (hbA.mono (by omega))) hgrow (by simp; omega) (fun q e => by have := hrowlt q e; omega)
          have e1 : n + 1 = (ts ++ [t]).length := by rw [List.length_append, Hn.out]; rfl
          have hS2 := hS.out (w' := (w3x.setCell ⟨w1.heap.size, 0, none⟩ (.slice (some ⟨gg, 0, none⟩) (n + 1) cap)).setCell ⟨w.heap.size + 1 + 1, 0, none⟩ (.slice (some ⟨gg, 0, none⟩) (n + 1) cap)) (Out.setCell (S := fun q => q = w1.heap.size ∨ q = w.heap.size + 1 + 1) (Out.setCell (Out.refl _ _) (p := ⟨w1.heap.size, 0, none⟩) (Or.inl rfl) _) (p := ⟨w.heap.size + 1 + 1, 0, none⟩) (Or.inr rfl) _) (fun g hg hg2 => by rcases hg with hg | hg <;> (have h5 := hg.1; have h6 := hg.2; rcases hg2 with hg2 | hg2 <;> omega))
          have hsub : ∀ g, (InR (w.heap.size + 3) w1.heap.size g ∨ InR wr.heap.size w3x.heap.size g) → InR w.heap.size w3x.heap.size g := by
            intro g hg
            rcases hg with hg | hg
            · exact ⟨by have := hg.1; omega, by have := hg.2; omega⟩
            · exact ⟨by have := hg.1; omega, by have := hg.2; omega⟩
          rw [e1] at hS2
          have HO := Lib.hid (of_own_Forest (x := ⟨ts ++ [t]⟩) hS2 hsub)
          rw [← e1] at HO
          clear hS hS2 e1 hsub
          go_wp2
          refine bodyPost_ret (v := .tuple #[.agg #[.slice (some ⟨gg, 0, none⟩) (n + 1) cap], .int .i64 0]) (by simp [results, Try.results20, go_sem, hcY, hfY, hcZ, hfZ]) rfl ⟨[.slice (some ⟨gg, 0, none⟩) (n + 1) cap], by rw [HGd.out.1, HN.out.1], ?_, by (repeat (first | (with_reducible exact Below.refl _ _) | (with_reducible assumption) | ((with_reducible refine Below.setCell ?_ ?_ _); rotate_left; focus (first | omega | (simp; done) | (simp; omega))) | ((with_reducible refine Below.alloc ?_ ?_ _); rotate_left; focus (first | omega | (simp; done) | (simp; omega))) | (with_reducible refine Below.drew ?_) | (with_reducible refine below_drewN ?_ _) | (refine Below.trans ?_ (Below.mono (by with_reducible assumption) (by (first | omega | (simp; done) | (simp; omega)))))))⟩
          rw [HGd.out.2, HN.out.2]
          exact ForestR.own_wide HO.out (inR_mono (by first | omega | (simp; done) | (simp; omega)) (by first | omega | (simp; done) | (simp; omega)))
end Go.Proofs.Ytcfhnhhgnophhaa

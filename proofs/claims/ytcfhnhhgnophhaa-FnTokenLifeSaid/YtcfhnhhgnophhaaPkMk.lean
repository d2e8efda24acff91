/- One element more behind a finished slice: the blocks between the slice's end and the append are free. makeToken of the program. MakeToken of the program. -/
import Derived.Test.YtcfhnhhgnophhaaGrow
import Derived.Test.YtcfhnhhgnophhaaGrow2
import Derived.Test.YtcfhnhhgnophhaaPkUse
import Derived.Test.YtcfhnhhgnophhaaGrowTok
import Derived.Test.YtcfhnhhgnophhaaForestL
import Derived.Test.YtcfhnhhgnophhaaCopyTok
import Derived.Test.YtcfhnhhgnophhaaCopyF
import Derived.Deep.DeepCutAuto
set_option linter.unusedSimpArgs false
set_option linter.unusedVariables false
set_option maxRecDepth 20000
namespace Go.Proofs.Ytcfhnhhgnophhaa
open Go.RowKit
theorem Grow.snocOwn {α : Type} {R : Rep α} {e : TypeId} {w0 wr W w' : World} {lo n c : Nat} {A : Option Addr} {css : List (List Value)} {xs : List α} (h : Grow R e w0 lo A n c css xs) (hb0 : Below w0.heap.size w0 wr) (hbW : Below wr.heap.size wr W) {lo1 hi1 : Nat} {cs : List Value} {x : α} (ho : R.Own W (InR lo1 hi1) cs x) (h1 : wr.heap.size ≤ lo1) (h2 : hi1 ≤ W.heap.size) (hlo : lo ≤ w0.heap.size)
    {gg cap : Nat} (hown : w'.ownsRow lo e R.m (.slice (some ⟨gg, 0, none⟩) (n + 1) cap) (n + 1) (css.flatten ++ cs)) (hg : W.grownBy w' (Value.slice A n c).ownBlock) (hat : (Value.slice A n c).ownBlock = some gg ∨ gg = W.heap.size) (hm : 0 < R.m) :
    SlOwn R e w' (fun g => InR lo w0.heap.size g ∨ InR wr.heap.size w'.heap.size g) (.slice (some ⟨gg, 0, none⟩) (n + 1) cap) (xs ++ [x]) := by
  obtain ⟨Ss, hb1, hoff⟩ := h.built
  have hrow := h.row
  have hz0 := hb0.size
  have hzW := hbW.size
  have hz' := hg.size
  have hin : ∀ g, (Value.slice A n c).ownBlock = some g → lo ≤ g ∧ g < w0.heap.size := fun g hg => hrow.lt g hg
  have hbt := hb1.keep hb0
  have hs0 : ∀ s ∈ Ss, ∀ g, s g → lo ≤ g ∧ g < w0.heap.size := fun s hs g hg => hb1.inn s hs g hg
  have hlen := h.len
  subst hlen
  have hB : Built R w' lo (Ss ++ [InR lo1 hi1]) (css ++ [cs]) (xs ++ [x]) := by
    have hs := (hbt.keep hbW).snoc ho (Nat.le_trans hlo (Nat.le_trans hz0 h1)) h2 (fun s hs g hg => Nat.lt_of_lt_of_le (hs0 s hs g hg).2 (Nat.le_trans hz0 h1))
    refine hs.out (out_of_grown hg) (fun s hs2 g hg1 hg2 => ?_)
    rcases List.mem_append.1 hs2 with hs2 | hs2
    · exact hoff s hs2 g hg2 hg1
    · rw [List.mem_singleton.1 hs2] at hg1
      have := (hin g hg2).2
      have := hg1.1
      omega
  have hO : ∀ s ∈ Ss ++ [InR lo1 hi1], ∀ g, gg = g → ¬ s g := by
    intro s hs g h7 hg2
    rcases List.mem_append.1 hs with hs | hs
    · have h5 := (hs0 s hs g hg2).2
      rcases hat with h6 | h6
      · exact hoff s hs g (by rw [h6, h7]) hg2
      · omega
    · rw [List.mem_singleton.1 hs] at hg2
      rcases hat with h6 | h6
      · have := (hin gg h6).2; have := hg2.1; omega
      · have := hg2.2; omega
  have hOb : ∀ g, (Value.slice (some ⟨gg, 0, none⟩) (xs.length + 1) cap).ownBlock = some g → gg = g := fun g hg => by simpa [Value.ownBlock] using hg
  have hll : xs.length + 1 = (xs ++ [x]).length := by simp
  have hfl : css.flatten ++ cs = (css ++ [cs]).flatten := by simp
  rw [hll, hfl] at hown
  rw [hll] at hOb
  have G : Grow R e w' lo (some ⟨gg, 0, none⟩) (xs ++ [x]).length cap (css ++ [cs]) (xs ++ [x]) := ⟨hown, ⟨_, hB, fun s hs g hg => hO s hs g (hOb g hg)⟩, rfl⟩
  obtain ⟨hl, hls⟩ := G.lens
  have hc : (xs ++ [x]).length ≤ cap := own_cap hown
  have hc2 : cap ≤ 9223372036854775807 := by
    rcases hown.2 with ⟨hv, hn⟩ | ⟨g, cap', cur, hv, _, _, _, hcm, _⟩
    · simp only [Value.slice.injEq] at hv; omega
    · simp only [Value.slice.injEq] at hv; simp only [maxLen] at hcm; omega
  rw [hll]
  refine hB.own (Rows.of_own hown hls hl hm) hc hc2 (fun g hg3 => ?_) (fun s hs g hg3 => ⟨?_, fun hg2 => hO s hs g (hOb g hg2) hg3⟩)
  · have h7 := hOb g hg3
    have h8 := hown.lt g hg3
    rcases hat with h6 | h6
    · exact .inl (by rw [← h7]; exact hin gg h6)
    · exact .inr ⟨by omega, h8.2⟩
  · rcases List.mem_append.1 hs with hs | hs
    · exact .inl (hs0 s hs g hg3)
    · rw [List.mem_singleton.1 hs] at hg3
      exact .inr ⟨Nat.le_trans h1 hg3.1, Nat.lt_of_lt_of_le hg3.2 (Nat.le_trans h2 hz')⟩
end Go.Proofs.Ytcfhnhhgnophhaa
namespace Go.Proofs.Ytcfhnhhgnophhaa
open Go.RowKit
set_option maxRecDepth 20000 in
set_option maxHeartbeats 6400000 in
theorem impl_makeToken (A : Option Addr) (c : Nat) (ts : List Token) (At : Option Addr) (ct : Nat) (t : Token) (w : World) (hr : SlRd TokenR w w.heap.size (.slice A ts.length c) ts) (hm : szList TokenR ts ≤ 1048576) (hok : forestOk ts = true) (hnr : Reads w w.heap.size At (t.Names.map strV)) (hns : ∀ s ∈ t.Names, s.size ≤ 9223372036854775807) (hnl : t.Names.length ≤ 1048576) :
    Calls Try.prog 49 #[.agg #[.slice A ts.length c], .agg #[.int .i64 t.Id, .int .i64 t.Parent, .slice At t.Names.length ct, .int .i64 t.Made, .int .i64 t.Ends, .int .i64 t.Limit, .int .i64 t.Uses]] w fun e w' => ∃ cs', e = .returned (.tuple #[.agg cs'.toArray, .int .i64 (makeC ts t)]) ∧ ForestR.Own w' (InR w.heap.size w'.heap.size) cs' ⟨makeT ts t⟩ ∧ Below w.heap.size w w' := by
  obtain ⟨i0, hi0, hz0', hz1', hz2'⟩ := info_parts info_Token
  have hml : ts.length ≤ 1048576 := Nat.le_trans (Nat.le_add_right _ _) hm
  have HNm := Lib.hid (fun k s (h : ts[k]? = some s) => names_small hm h)
  have HAt := Lib.hid (fun (i : Int) (w' : World) (h : SlRd TokenR w' w'.heap.size (.slice A ts.length c) ts) => impl_tokenIndex A c ts i w' h hm)
  have HCl := Lib.hid (fun (w' : World) (h : SlRd TokenR w' w'.heap.size (.slice A ts.length c) ts) => impl_cloneForest A c ts w' h hm)
  have HTk := Lib.hid (fun (b : Bool) (hb : tokOk t = b) (w' : World) (h : Reads w' w'.heap.size At (t.Names.map strV)) => (hb ▸ impl_isToken t At ct w' h hns (by omega) : Calls Try.prog 61 #[.agg #[.int .i64 t.Id, .int .i64 t.Parent, .slice At t.Names.length ct, .int .i64 t.Made, .int .i64 t.Ends, .int .i64 t.Limit, .int .i64 t.Uses]] w' fun e w'' => e = .returned (.bool b) ∧ Below w'.heap.size w' w''))
  have HNs := Lib.hid hns
  have HOK := Lib.hid hok
  clear hok hns
  generalize hn : ts.length = n at *
  have Hn := Lib.hid hn
  clear hn hm
  go_enter Try.func49, Try.ntmps49
  go_wp2_with fail
  refine (HCl.out _ (hr.keep (by (repeat (first | (with_reducible exact Below.refl _ _) | (with_reducible assumption) | ((with_reducible refine Below.setCell ?_ ?_ _); rotate_left; focus (first | omega | (simp; done) | (simp; omega))) | ((with_reducible refine Below.alloc ?_ ?_ _); rotate_left; focus (first | omega | (simp; done) | (simp; omega))) | (with_reducible refine Below.drew ?_) | (with_reducible refine below_drewN ?_ _) | (refine Below.trans ?_ (Below.mono (by with_reducible assumption) (by (first | omega | (simp; done) | (simp; omega)))))))) (by first | omega | (simp; done) | (simp; omega)))).mono ?_
  rintro e w1 ⟨D, d, css, rfl, G, hb1⟩
  have hz1 := hb1.size; try simp at hz1
  have G0 := Lib.hid (G.base (lo' := w.heap.size + 3) (by simp))
  clear G
  have BK0 : Blk (w1.alloc (.cells #[.slice D n d] 26)) w.heap.size 26 #[.slice A n c] := by (repeat (first | (with_reducible assumption) | ((with_reducible refine Blk.new' ?_); focus (simp; done)) | (with_reducible refine Blk.alloc ?_ _) | (with_reducible refine Blk.drew ?_) | (with_reducible refine Blk.drewN ?_ _) | ((with_reducible refine Blk.far ?_ ?_ _); rotate_left; focus (first | omega | (simp; done) | (simp; omega))) | (refine Blk.keep ?_ (by with_reducible assumption)) | (refine Blk.below ?_ (by with_reducible assumption) (by (first | omega | (simp; done) | (simp; omega))))))
  have BKT : Blk (w1.alloc (.cells #[.slice D n d] 26)) (w.heap.size + 1) 35 #[.int .i64 t.Id, .int .i64 t.Parent, .slice At t.Names.length ct, .int .i64 t.Made, .int .i64 t.Ends, .int .i64 t.Limit, .int .i64 t.Uses] := by (repeat (first | (with_reducible assumption) | ((with_reducible refine Blk.new' ?_); focus (simp; done)) | (with_reducible refine Blk.alloc ?_ _) | (with_reducible refine Blk.drew ?_) | (with_reducible refine Blk.drewN ?_ _) | ((with_reducible refine Blk.far ?_ ?_ _); rotate_left; focus (first | omega | (simp; done) | (simp; omega))) | (refine Blk.keep ?_ (by with_reducible assumption)) | (refine Blk.below ?_ (by with_reducible assumption) (by (first | omega | (simp; done) | (simp; omega))))))
  have BK1 : Blk (w1.alloc (.cells #[.slice D n d] 26)) (w.heap.size + 1 + 1) 26 #[.slice none 0 0] := by (repeat (first | (with_reducible assumption) | ((with_reducible refine Blk.new' ?_); focus (simp; done)) | (with_reducible refine Blk.alloc ?_ _) | (with_reducible refine Blk.drew ?_) | (with_reducible refine Blk.drewN ?_ _) | ((with_reducible refine Blk.far ?_ ?_ _); rotate_left; focus (first | omega | (simp; done) | (simp; omega))) | (refine Blk.keep ?_ (by with_reducible assumption)) | (refine Blk.below ?_ (by with_reducible assumption) (by (first | omega | (simp; done) | (simp; omega))))))
  have BKO : Blk (w1.alloc (.cells #[.slice D n d] 26)) w1.heap.size 26 #[.slice D n d] := by (repeat (first | (with_reducible assumption) | ((with_reducible refine Blk.new' ?_); focus (simp; done)) | (with_reducible refine Blk.alloc ?_ _) | (with_reducible refine Blk.drew ?_) | (with_reducible refine Blk.drewN ?_ _) | ((with_reducible refine Blk.far ?_ ?_ _); rotate_left; focus (first | omega | (simp; done) | (simp; omega))) | (refine Blk.keep ?_ (by with_reducible assumption)) | (refine Blk.below ?_ (by with_reducible assumption) (by (first | omega | (simp; done) | (simp; omega))))))
  have hbW0 : Below w.heap.size w (w1.alloc (.cells #[.slice D n d] 26)) := by (repeat (first | (with_reducible exact Below.refl _ _) | (with_reducible assumption) | ((with_reducible refine Below.setCell ?_ ?_ _); rotate_left; focus (first | omega | (simp; done) | (simp; omega))) | ((with_reducible refine Below.alloc ?_ ?_ _); rotate_left; focus (first | omega | (simp; done) | (simp; omega))) | (with_reducible refine Below.drew ?_) | (with_reducible refine below_drewN ?_ _) | (refine Below.trans ?_ (Below.mono (by with_reducible assumption) (by (first | omega | (simp; done) | (simp; omega)))))))
  have hb1W : Below w1.heap.size w1 (w1.alloc (.cells #[.slice D n d] 26)) := by (repeat (first | (with_reducible exact Below.refl _ _) | (with_reducible assumption) | ((with_reducible refine Below.setCell ?_ ?_ _); rotate_left; focus (first | omega | (simp; done) | (simp; omega))) | ((with_reducible refine Below.alloc ?_ ?_ _); rotate_left; focus (first | omega | (simp; done) | (simp; omega))) | (with_reducible refine Below.drew ?_) | (with_reducible refine below_drewN ?_ _) | (refine Below.trans ?_ (Below.mono (by with_reducible assumption) (by (first | omega | (simp; done) | (simp; omega)))))))
  have hc0 := BK0.cell; have hf0 := BK0.frozen; have hl0 := BK0.lt; have hcT := BKT.cell; have hfT := BKT.frozen; have hlT := BKT.lt
  have hcO := BKO.cell; have hfO := BKO.frozen; have hlO := BKO.lt
  go_upto_region 3 with fail
  go_cut [33] (fun s33 wx => s33 = .bool (!tokOk t || lastBig ts t) ∧ Below (w1.alloc (.cells #[.slice D n d] 26)).heap.size (w1.alloc (.cells #[.slice D n d] 26)) wx)
  case first =>
    cases hk : tokOk t
    · have HKt := Lib.hid hk
      have HI := Lib.hid (fun (n' : Lt (w1.alloc (.cells #[.slice D n d] 26))) => HTk.out false hk (later _ n') (hnr.keep (hbW0.trans ((later_below _ n').mono hbW0.size)) (Nat.le_trans hbW0.size (later_below _ n').size)))
      generalize (w1.alloc (.cells #[.slice D n d] 26)) = W at *
      have q0 := BK0.later
      have q1 := BKT.later
      refine wp_region_later (by kernel_rfl) (by kernel_rfl) ?_
      repeat (first | go_big_quiet_step ((go_at_call 61; exact Calls.later_of (HI.out _))) | quiet_step ((go_at_call 61; exact Calls.later_of (HI.out _))))
      refine wpQuiet_nil ?_
      intro w3 hb3
      go_wp2_with fail
      go_meet
      exact ⟨by rw [HKt.out]; rfl, hb3⟩
    · have HKt := Lib.hid hk
      have HI := Lib.hid (fun (n' : Lt (w1.alloc (.cells #[.slice D n d] 26))) => HTk.out true hk (later _ n') (hnr.keep (hbW0.trans ((later_below _ n').mono hbW0.size)) (Nat.le_trans hbW0.size (later_below _ n').size)))
      by_cases h0 : 0 < n
      · have hs1 : n - 1 < ts.length := by rw [Hn.out]; omega
        have HS := Lib.hid (List.getElem?_eq_getElem hs1)
        generalize ts[n - 1]'hs1 = s at HS
        clear hs1
        obtain ⟨b, off, An, cn, rfl, hab, hnm, hq0, -⟩ := tok_elem (hr.below hbW0 (Nat.le_refl _)) HS.out
        clear hnm
        have hd0 : decide ((0 : Int) < (n : Int)) = true := by simpa using h0
        have HL := Lib.hid (lastBig_at (t := t) (by rw [Hn.out]; exact HS.out))
        cases hb : decide (t.Id ≤ s.Id)
        all_goals
          have HB := Lib.hid hb
          generalize (w1.alloc (.cells #[.slice D n d] 26)) = W at *
          have q0 := BK0.later
          have q1 := BKT.later
          have q2 := later_cell hq0
          refine wp_region_later (by kernel_rfl) (by kernel_rfl) ?_
          repeat (first | go_big_quiet_step ((go_at_call 61; exact Calls.later_of (HI.out _))) | quiet_step ((go_at_call 61; exact Calls.later_of (HI.out _))))
          refine wpQuiet_nil ?_
          intro w3 hb3
          go_wp2_with fail
          go_meet
          exact ⟨by rw [HKt.out, HL.out, HB.out]; rfl, hb3⟩
      · have h00 : n = 0 := by omega
        have HL := Lib.hid (lastBig_zero (t := t) (by rw [Hn.out]; exact h00))
        have hd0 : decide ((0 : Int) < (n : Int)) = false := by simpa using h0
        generalize (w1.alloc (.cells #[.slice D n d] 26)) = W at *
        have q0 := BK0.later
        have q1 := BKT.later
        refine wp_region_later (by kernel_rfl) (by kernel_rfl) ?_
        repeat (first | go_big_quiet_step ((go_at_call 61; exact Calls.later_of (HI.out _))) | quiet_step ((go_at_call 61; exact Calls.later_of (HI.out _))))
        refine wpQuiet_nil ?_
        intro w3 hb3
        go_wp2_with fail
        go_meet
        exact ⟨by rw [HKt.out, HL.out]; rfl, hb3⟩
  case rest =>
    obtain ⟨rfl, hb3⟩ := hcut
    obtain ⟨w3, hw3⟩ : ∃ w_, w_ = wc := ⟨_, rfl⟩
    subst hw3
    have hz3 := hb3.size
    simp at hz3
    have hbK : Below w1.heap.size w1 w3 := hb1W.trans (hb3.mono hb1W.size)
    have hbwK : Below w.heap.size w w3 := hbW0.trans (hb3.mono hbW0.size)
    replace BK0 := BK0.keep hb3; replace BKT := BKT.keep hb3; replace BK1 := BK1.keep hb3; replace BKO := BKO.keep hb3
    replace hc0 := BK0.cell; replace hf0 := BK0.frozen; replace hl0 := BK0.lt; replace hcT := BKT.cell; replace hfT := BKT.frozen; replace hlT := BKT.lt
    replace hcO := BKO.cell; replace hfO := BKO.frozen; replace hlO := BKO.lt
    have hc1 := BK1.cell; have hf1 := BK1.frozen; have hl1 := BK1.lt
    clear hb1W hb3 hbW0
    cases hbad : (!tokOk t || lastBig ts t)
    rotate_left
    · have HN : Hid (makeC ts t = 1 ∧ makeT ts t = ts) := Lib.hid (by
        cases hk : tokOk t
        · exact make_bad1 hk
        · rw [hk] at hbad; exact make_bad2 (by simpa using hbad))
      clear hbad
      go_wp2
      refine bodyPost_ret (v := .tuple #[.agg #[.slice D n d], .int .i64 1]) (by simp [results, Try.results49, go_sem, hc1, hf1]) rfl ⟨[.slice D n d], by rw [HN.out.1], ?_, by (repeat (first | (with_reducible exact Below.refl _ _) | (with_reducible assumption) | ((with_reducible refine Below.setCell ?_ ?_ _); rotate_left; focus (first | omega | (simp; done) | (simp; omega))) | ((with_reducible refine Below.alloc ?_ ?_ _); rotate_left; focus (first | omega | (simp; done) | (simp; omega))) | (with_reducible refine Below.drew ?_) | (with_reducible refine below_drewN ?_ _) | (refine Below.trans ?_ (Below.mono (by with_reducible assumption) (by (first | omega | (simp; done) | (simp; omega)))))))⟩
      rw [HN.out.2]
      exact ForestR.own_wide (ForestR.own_off (ForestR.own_keep G0.out.forest hbK) (by (repeat (first | (with_reducible exact Out.refl _ _) | (with_reducible assumption) | ((with_reducible refine Out.setCell ?_ ?_ _); rotate_left; focus (first | (refine Or.inl ?_; (first | omega | (simp; done) | (simp; omega))) | (refine Or.inr ?_; (first | omega | (simp; done) | (simp; omega))))) | (with_reducible refine Out.alloc ?_ _) | (with_reducible refine Out.drew ?_) | (with_reducible refine Out.drewN ?_ _) | (refine Out.step ?_ (by with_reducible assumption)))))) (inR_mono (by first | omega | (simp; done) | (simp; omega)) (by first | omega | (simp; done) | (simp; omega)))
    have hk : tokOk t = true := by cases hk : tokOk t <;> rw [hk] at hbad <;> first | rfl | (exact absurd hbad (by simp))
    have hl : lastBig ts t = false := by rw [hk] at hbad; simpa using hbad
    clear hbad
    cases hp : t.Parent == 0
    rotate_left
    · have HC := Lib.hid (make_top hk hl hp)
      have hp1 : (t.Parent != 0) = false := by simp only [bne, hp]; rfl
      clear hk hl
      by_cases hf : n = 120
      · subst hf
        have HN := Lib.hid (make_full HC.out (by rw [Hn.out]; rfl))
        go_wp2
        refine bodyPost_ret (v := .tuple #[.agg #[.slice D 120 d], .int .i64 5]) (by simp [results, Try.results49, go_sem, hc1, hf1]) rfl ⟨[.slice D 120 d], by rw [HN.out.1], ?_, by (repeat (first | (with_reducible exact Below.refl _ _) | (with_reducible assumption) | ((with_reducible refine Below.setCell ?_ ?_ _); rotate_left; focus (first | omega | (simp; done) | (simp; omega))) | ((with_reducible refine Below.alloc ?_ ?_ _); rotate_left; focus (first | omega | (simp; done) | (simp; omega))) | (with_reducible refine Below.drew ?_) | (with_reducible refine below_drewN ?_ _) | (refine Below.trans ?_ (Below.mono (by with_reducible assumption) (by (first | omega | (simp; done) | (simp; omega)))))))⟩
        rw [HN.out.2]
        exact ForestR.own_wide (ForestR.own_off (ForestR.own_keep G0.out.forest hbK) (by (repeat (first | (with_reducible exact Out.refl _ _) | (with_reducible assumption) | ((with_reducible refine Out.setCell ?_ ?_ _); rotate_left; focus (first | (refine Or.inl ?_; (first | omega | (simp; done) | (simp; omega))) | (refine Or.inr ?_; (first | omega | (simp; done) | (simp; omega))))) | (with_reducible refine Out.alloc ?_ _) | (with_reducible refine Out.drew ?_) | (with_reducible refine Out.drewN ?_ _) | (refine Out.step ?_ (by with_reducible assumption)))))) (inR_mono (by first | omega | (simp; done) | (simp; omega)) (by first | omega | (simp; done) | (simp; omega)))
      have HN := Lib.hid (make_done HC.out (by rw [Hn.out]; exact beq_false_of_ne hf))
      have hfd : decide ((n : Int) = 120) = false := decide_eq_false (by omega)
      have hrow : w1.ownsRow (w.heap.size + 3) 35 7 (.slice D n d) n css.flatten := G0.out.row
      generalize hcf : css.flatten = cf at hrow
      have HCf := Lib.hid hcf
      clear hcf
      have hneO : some w1.heap.size ≠ (Value.slice D n d).ownBlock := fun e => by have := (hrow.lt _ e.symm).2; omega
      have hneR : some (w.heap.size + 1 + 1) ≠ (Value.slice D n d).ownBlock := fun e => by have := (hrow.lt _ e.symm).1; omega
      go_wp2_with fail
      have hbW : Below w1.heap.size w1 w3.drew := Below.drew hbK
      have hbWw : Below w.heap.size w w3.drew := Below.drew hbwK
      have BX2 : Blk w3.drew w1.heap.size 26 #[.slice D n d] := BKO.drew
      have hcx := BX2.cell; have hfx := BX2.frozen
      have BR2 : Blk w3.drew (w.heap.size + 1 + 1) 26 #[.slice none 0 0] := BK1.drew
      have BT2 : Blk w3.drew (w.heap.size + 1) 35 #[.int .i64 t.Id, .int .i64 t.Parent, .slice At t.Names.length ct, .int .i64 t.Made, .int .i64 t.Ends, .int .i64 t.Limit, .int .i64 t.Uses] := BKT.drew
      have hcT := BT2.cell
      have hzD : (w3.drew).heap.size = w3.heap.size := by simp
      have hrW : Reads w3.drew (w3.drew).heap.size At (t.Names.map strV) := hnr.keep hbWw (by omega)
      have hro : World.ownsRow w3.drew (w.heap.size + 3) 35 7 (.slice D n d) n cf := own_below hrow hbW
      go_region_law (first | (refine step_append_lies _ (by rfl) _ _ _ (by rfl) (w.heap.size + 3) 35 i0 _ 7 72 Try.underlying24 hi0 hz0' hz1' hz2' rfl (by omega) (.slice D n d) n cf (by rfl) ((own_below hro hb2x).alloc _) ⟨w2x.heap.size, 0, none⟩ 1 1 [.int .i64 t.Id, .int .i64 t.Parent, .slice D2 t.Names.length d2, .int .i64 t.Made, .int .i64 t.Ends, .int .i64 t.Limit, .int .i64 t.Uses] (by rfl) (by rfl) (World.news_of_block (cs := #[.int .i64 t.Id, .int .i64 t.Parent, .slice D2 t.Names.length d2, .int .i64 t.Made, .int .i64 t.Ends, .int .i64 t.Limit, .int .i64 t.Uses]) (t := 35) (fr := (0, 0)) (heap_alloc_new w2x _)) (by simp [Value.oneCell']) (by omega) (by simp only [maxLen]; omega) (by omega) (by simp; omega) (w2x.heap.size + 1) (by simp) ?_; intro gg cap w3x hown1 hgrow hat hlt1; have BY := Blk.grown (BX3.alloc (.cells #[.int .i64 t.Id, .int .i64 t.Parent, .slice D2 t.Names.length d2, .int .i64 t.Made, .int .i64 t.Ends, .int .i64 t.Limit, .int .i64 t.Uses] 35)) hgrow hneO; have hcY := BY.cell; have hfY := BY.frozen; have BZ := Blk.grown (BR3.alloc (.cells #[.int .i64 t.Id, .int .i64 t.Parent, .slice D2 t.Names.length d2, .int .i64 t.Made, .int .i64 t.Ends, .int .i64 t.Limit, .int .i64 t.Uses] 35)) hgrow hneR; have hcZ := BZ.cell; have hfZ := BZ.frozen) | (go_simp; go_at_call 50; refine (impl_cloneToken t At ct _ hrW (by omega)).mono ?_; rintro e w2x ⟨D2, d2, rfl, hox, hb2x⟩; have hsz2 := hb2x.size; have BX3 := BX2.keep hb2x; have hc3 := BX3.cell; have hf3 := BX3.frozen; have BR3 := BR2.keep hb2x; have BX4 := BX3.alloc (.cells #[.int .i64 t.Id, .int .i64 t.Parent, .slice D2 t.Names.length d2, .int .i64 t.Made, .int .i64 t.Ends, .int .i64 t.Limit, .int .i64 t.Uses] 35); have hc4 := BX4.cell; have hf4 := BX4.frozen))
      all_goals
        have hbA : Below w3.heap.size w3 (w2x.alloc (.cells #[.int .i64 t.Id, .int .i64 t.Parent, .slice D2 t.Names.length d2, .int .i64 t.Made, .int .i64 t.Ends, .int .i64 t.Limit, .int .i64 t.Uses] 35)) := Below.alloc ((Below.drew (Below.refl _ _)).trans (hb2x.mono (by omega))) (by omega) _
        have hoA := TokenR.own_keep (own_Token_row hox HNs.out) ((Below.refl _ w2x).alloc (Nat.le_refl _) (.cells #[.int .i64 t.Id, .int .i64 t.Parent, .slice D2 t.Names.length d2, .int .i64 t.Made, .int .i64 t.Ends, .int .i64 t.Limit, .int .i64 t.Uses] 35))
        have hS := Grow.snocOwn G0.out hbK hbA hoA (by omega) (by simp) (by omega) (by rw [HCf.out]; exact hown1) hgrow (hat.imp_right (fun h => by simpa using h)) (by decide)
        have hzg := hgrow.size
        have hzg2 : w2x.heap.size + 1 ≤ w3x.heap.size := by simpa using hzg
        have hrowlt : ∀ q, (Value.slice D n d).ownBlock = some q → w.heap.size + 3 ≤ q := fun q e => (hrow.lt q e).1
        have hbG : Below w.heap.size w w3x := Below.grown (hbwK.trans (hbA.mono (by omega))) hgrow (by simp; omega) (fun q e => by have := hrowlt q e; omega)
        have e1 : n + 1 = (ts ++ [t]).length := by rw [List.length_append, Hn.out]; rfl
        have hS2 := hS.out (w' := (w3x.setCell ⟨w1.heap.size, 0, none⟩ (.slice (some ⟨gg, 0, none⟩) (n + 1) cap)).setCell ⟨w.heap.size + 1 + 1, 0, none⟩ (.slice (some ⟨gg, 0, none⟩) (n + 1) cap)) (Out.setCell (S := fun q => q = w1.heap.size ∨ q = w.heap.size + 1 + 1) (Out.setCell (Out.refl _ _) (p := ⟨w1.heap.size, 0, none⟩) (Or.inl rfl) _) (p := ⟨w.heap.size + 1 + 1, 0, none⟩) (Or.inr rfl) _) (fun g hg hg2 => by rcases hg with hg | hg <;> (have h5 := hg.1; have h6 := hg.2; rcases hg2 with hg2 | hg2 <;> omega))
        have hsub : ∀ g, (InR (w.heap.size + 3) w1.heap.size g ∨ InR w3.heap.size w3x.heap.size g) → InR w.heap.size w3x.heap.size g := by
          intro g hg
          rcases hg with hg | hg
          · exact ⟨by have := hg.1; omega, by have := hg.2; omega⟩
          · exact ⟨by have := hg.1; omega, by have := hg.2; omega⟩
        rw [e1] at hS2
        have HO := Lib.hid (of_own_Forest (x := ⟨ts ++ [t]⟩) hS2 hsub)
        rw [← e1] at HO
        clear hS hS2 e1 hsub
        go_wp2
        refine bodyPost_ret (v := .tuple #[.agg #[.slice (some ⟨gg, 0, none⟩) (n + 1) cap], .int .i64 0]) (by simp [results, Try.results49, go_sem, hcY, hfY, hcZ, hfZ]) rfl ⟨[.slice (some ⟨gg, 0, none⟩) (n + 1) cap], by rw [HN.out.1], ?_, by (repeat (first | (with_reducible exact Below.refl _ _) | (with_reducible assumption) | ((with_reducible refine Below.setCell ?_ ?_ _); rotate_left; focus (first | omega | (simp; done) | (simp; omega))) | ((with_reducible refine Below.alloc ?_ ?_ _); rotate_left; focus (first | omega | (simp; done) | (simp; omega))) | (with_reducible refine Below.drew ?_) | (with_reducible refine below_drewN ?_ _) | (refine Below.trans ?_ (Below.mono (by with_reducible assumption) (by (first | omega | (simp; done) | (simp; omega)))))))⟩
        rw [HN.out.2]
        exact ForestR.own_wide HO.out (inR_mono (by first | omega | (simp; done) | (simp; omega)) (by first | omega | (simp; done) | (simp; omega)))
    have hp1 : (t.Parent != 0) = true := by simp only [bne, hp]; rfl
    have HNone := Lib.hid (fun hx => make_none hk hl hp hx)
    have HOver := Lib.hid (fun (i : Nat) (s : Token) (e1 : idxT ts t.Parent = i) (e2 : ts[i]? = some s) ho => make_over hk hl hp e1 e2 ho)
    have HMiss := Lib.hid (fun (i : Nat) (s : Token) (e1 : idxT ts t.Parent = i) (e2 : ts[i]? = some s) ho hm => make_miss hk hl hp e1 e2 ho hm)
    have HFits := Lib.hid (fun (i : Nat) (s : Token) (e1 : idxT ts t.Parent = i) (e2 : ts[i]? = some s) ho hm => make_fits hk hl hp e1 e2 ho hm)
    clear hk hl
    have hrw3 : SlRd TokenR w3 w3.heap.size (.slice A n c) ts := hr.keep hbwK hbwK.size
    go_wp2_with fail
    refine (HAt.out t.Parent _ hrw3).mono ?_
    rintro e w4 ⟨rfl, hb4⟩
    have hz4 := hb4.size
    replace hbK : Below w1.heap.size w1 w4 := hbK.trans (hb4.mono hbK.size)
    replace hbwK : Below w.heap.size w w4 := hbwK.trans (hb4.mono hbwK.size)
    replace BK0 := BK0.keep hb4; replace BKT := BKT.keep hb4; replace BK1 := BK1.keep hb4; replace BKO := BKO.keep hb4
    replace hc0 := BK0.cell; replace hf0 := BK0.frozen; replace hl0 := BK0.lt; replace hcT := BKT.cell; replace hfT := BKT.frozen; replace hlT := BKT.lt
    replace hcO := BKO.cell; replace hfO := BKO.frozen; replace hlO := BKO.lt
    replace hc1 := BK1.cell; replace hf1 := BK1.frozen; replace hl1 := BK1.lt
    by_cases hx : idxT ts t.Parent < 0
    · have HN := Lib.hid (HNone.out hx)
      go_wp2
      refine bodyPost_ret (v := .tuple #[.agg #[.slice D n d], .int .i64 2]) (by simp [results, Try.results49, go_sem, hc1, hf1]) rfl ⟨[.slice D n d], by rw [HN.out.1], ?_, by (repeat (first | (with_reducible exact Below.refl _ _) | (with_reducible assumption) | ((with_reducible refine Below.setCell ?_ ?_ _); rotate_left; focus (first | omega | (simp; done) | (simp; omega))) | ((with_reducible refine Below.alloc ?_ ?_ _); rotate_left; focus (first | omega | (simp; done) | (simp; omega))) | (with_reducible refine Below.drew ?_) | (with_reducible refine below_drewN ?_ _) | (refine Below.trans ?_ (Below.mono (by with_reducible assumption) (by (first | omega | (simp; done) | (simp; omega)))))))⟩
      rw [HN.out.2]
      exact ForestR.own_wide (ForestR.own_off (ForestR.own_keep G0.out.forest hbK) (by (repeat (first | (with_reducible exact Out.refl _ _) | (with_reducible assumption) | ((with_reducible refine Out.setCell ?_ ?_ _); rotate_left; focus (first | (refine Or.inl ?_; (first | omega | (simp; done) | (simp; omega))) | (refine Or.inr ?_; (first | omega | (simp; done) | (simp; omega))))) | (with_reducible refine Out.alloc ?_ _) | (with_reducible refine Out.drew ?_) | (with_reducible refine Out.drewN ?_ _) | (refine Out.step ?_ (by with_reducible assumption)))))) (inR_mono (by first | omega | (simp; done) | (simp; omega)) (by first | omega | (simp; done) | (simp; omega)))
    obtain ⟨i, s, e1, e2, e3⟩ := tok_at (Int.not_lt.1 hx)
    have hi := idxT_small e1
    rw [Hn.out] at hi
    have hps := HNm.out i s e2
    obtain ⟨b, off, An, cn, rfl, hab, hnm, ha0, ha1, ha2, ha3, ha4, ha5, ha6⟩ := tok_elem (hr.below hbwK (Nat.le_refl _)) e2
    obtain ⟨-, hnp, -, -, -⟩ := rd_StringS hnm
    have HO3 := Lib.hid (fun ho => HOver.out i s e1 e2 ho)
    have HM3 := Lib.hid (fun ho hm => HMiss.out i s e1 e2 ho hm)
    have HF3 := Lib.hid (fun ho hm => HFits.out i s e1 e2 ho hm)
    have hd : decide ((i : Int) < 0) = false := by simp
    rw [e1] at hx ⊢
    clear e1 e2 e3 hnm
    have BK5 := BK1.alloc (.cells #[.int .i64 s.Id, .int .i64 s.Parent, .slice An s.Names.length cn, .int .i64 s.Made, .int .i64 s.Ends, .int .i64 s.Limit, .int .i64 s.Uses] 35)
    have BS : Blk ((w4.setCell ⟨w.heap.size + 1 + 1, 0, none⟩ (.slice D n d)).alloc (.cells #[.int .i64 s.Id, .int .i64 s.Parent, .slice An s.Names.length cn, .int .i64 s.Made, .int .i64 s.Ends, .int .i64 s.Limit, .int .i64 s.Uses] 35)) (w.heap.size + 1 + 1) 26 #[.slice D n d] := (by simpa using BK1.set_ 0 (.slice D n d) : Blk (w4.setCell ⟨w.heap.size + 1 + 1, 0, none⟩ (.slice D n d)) (w.heap.size + 1 + 1) 26 #[.slice D n d]).alloc _
    have hc5 := BS.cell; have hf5 := BS.frozen
    cases ho : overB s.Ends t.Made
    rotate_left
    · have HN := Lib.hid (HO3.out ho)
      go_wp2_with fail
      refine (impl_isOver_b ho _).mono ?_
      rintro e w' ⟨rfl, rfl⟩
      go_wp2
      refine bodyPost_ret (v := .tuple #[.agg #[.slice D n d], .int .i64 3]) (by simp [results, Try.results49, go_sem, hc5, hf5]) rfl ⟨[.slice D n d], by rw [HN.out.1], ?_, by (repeat (first | (with_reducible exact Below.refl _ _) | (with_reducible assumption) | ((with_reducible refine Below.setCell ?_ ?_ _); rotate_left; focus (first | omega | (simp; done) | (simp; omega))) | ((with_reducible refine Below.alloc ?_ ?_ _); rotate_left; focus (first | omega | (simp; done) | (simp; omega))) | (with_reducible refine Below.drew ?_) | (with_reducible refine below_drewN ?_ _) | (refine Below.trans ?_ (Below.mono (by with_reducible assumption) (by (first | omega | (simp; done) | (simp; omega)))))))⟩
      rw [HN.out.2]
      exact ForestR.own_wide (ForestR.own_off (ForestR.own_keep G0.out.forest hbK) (by (repeat (first | (with_reducible exact Out.refl _ _) | (with_reducible assumption) | ((with_reducible refine Out.setCell ?_ ?_ _); rotate_left; focus (first | (refine Or.inl ?_; (first | omega | (simp; done) | (simp; omega))) | (refine Or.inr ?_; (first | omega | (simp; done) | (simp; omega))))) | (with_reducible refine Out.alloc ?_ _) | (with_reducible refine Out.drew ?_) | (with_reducible refine Out.drewN ?_ _) | (refine Out.step ?_ (by with_reducible assumption)))))) (inR_mono (by first | omega | (simp; done) | (simp; omega)) (by first | omega | (simp; done) | (simp; omega)))
    go_wp2_with fail
    refine (impl_isOver_b ho _).mono ?_
    rintro e w' ⟨rfl, rfl⟩
    have hbK5 : Below w1.heap.size w1 (w4.alloc (.cells #[.int .i64 s.Id, .int .i64 s.Parent, .slice An s.Names.length cn, .int .i64 s.Made, .int .i64 s.Ends, .int .i64 s.Limit, .int .i64 s.Uses] 35)) := Below.alloc hbK hbK.size _
    have hbwK5 : Below w.heap.size w (w4.alloc (.cells #[.int .i64 s.Id, .int .i64 s.Parent, .slice An s.Names.length cn, .int .i64 s.Made, .int .i64 s.Ends, .int .i64 s.Limit, .int .i64 s.Uses] 35)) := Below.alloc hbwK hbwK.size _
    have hCF : ∀ x : Bool, missT t.Names s.Names = x → Calls Try.prog 68 #[.slice At t.Names.length ct, .func (.func 69) #[] #[.pointer (some ⟨w4.heap.size, 0, none⟩)]] (w4.alloc (.cells #[.int .i64 s.Id, .int .i64 s.Parent, .slice An s.Names.length cn, .int .i64 s.Made, .int .i64 s.Ends, .int .i64 s.Limit, .int .i64 s.Uses] 35)) fun e w' => e = .returned (.bool x) ∧ (w4.alloc (.cells #[.int .i64 s.Id, .int .i64 s.Parent, .slice An s.Names.length cn, .int .i64 s.Made, .int .i64 s.Ends, .int .i64 s.Limit, .int .i64 s.Uses] 35)) = w' := by
      intro x hx2
      rw [← hx2]
      exact slices_ContainsFunc_make At ct t.Names ⟨w4.heap.size, 0, none⟩ (fun y => !hasT s.Names y) _ (hnr.keep hbwK5 hbwK5.size) (by omega) (fun bb => impl_makeToken_1 An cn s.Names bb w4.heap.size _ ((Blk.new w4 35 #[.int .i64 s.Id, .int .i64 s.Parent, .slice An s.Names.length cn, .int .i64 s.Made, .int .i64 s.Ends, .int .i64 s.Limit, .int .i64 s.Uses]).cell 2) (hnp.keep (((Below.refl _ w4).alloc (Nat.le_refl _) _).mono hbwK.size) (by have := hbwK.size; simp; omega)) (by omega))
    cases hmt : missT t.Names s.Names
    rotate_left
    · have HN := Lib.hid (HM3.out ho hmt)
      have HCF := Lib.hid (hCF true hmt)
      clear hCF
      go_wp2_with fail
      refine HCF.out.mono ?_
      rintro e w' ⟨rfl, rfl⟩
      go_wp2
      refine bodyPost_ret (v := .tuple #[.agg #[.slice D n d], .int .i64 4]) (by simp [results, Try.results49, go_sem, hc5, hf5]) rfl ⟨[.slice D n d], by rw [HN.out.1], ?_, by (repeat (first | (with_reducible exact Below.refl _ _) | (with_reducible assumption) | ((with_reducible refine Below.setCell ?_ ?_ _); rotate_left; focus (first | omega | (simp; done) | (simp; omega))) | ((with_reducible refine Below.alloc ?_ ?_ _); rotate_left; focus (first | omega | (simp; done) | (simp; omega))) | (with_reducible refine Below.drew ?_) | (with_reducible refine below_drewN ?_ _) | (refine Below.trans ?_ (Below.mono (by with_reducible assumption) (by (first | omega | (simp; done) | (simp; omega)))))))⟩
      rw [HN.out.2]
      exact ForestR.own_wide (ForestR.own_off (ForestR.own_keep G0.out.forest hbK) (by (repeat (first | (with_reducible exact Out.refl _ _) | (with_reducible assumption) | ((with_reducible refine Out.setCell ?_ ?_ _); rotate_left; focus (first | (refine Or.inl ?_; (first | omega | (simp; done) | (simp; omega))) | (refine Or.inr ?_; (first | omega | (simp; done) | (simp; omega))))) | (with_reducible refine Out.alloc ?_ _) | (with_reducible refine Out.drew ?_) | (with_reducible refine Out.drewN ?_ _) | (refine Out.step ?_ (by with_reducible assumption)))))) (inR_mono (by first | omega | (simp; done) | (simp; omega)) (by first | omega | (simp; done) | (simp; omega)))
    have HC := Lib.hid (HF3.out ho hmt)
    have HCF := Lib.hid (hCF false hmt)
    clear hCF
    go_wp2_with fail
    refine HCF.out.mono ?_
    rintro e w' ⟨rfl, rfl⟩
    replace hbK := hbK5; replace hbwK := hbwK5
    replace BKT := BKT.alloc (.cells #[.int .i64 s.Id, .int .i64 s.Parent, .slice An s.Names.length cn, .int .i64 s.Made, .int .i64 s.Ends, .int .i64 s.Limit, .int .i64 s.Uses] 35); replace BK1 := BK1.alloc (.cells #[.int .i64 s.Id, .int .i64 s.Parent, .slice An s.Names.length cn, .int .i64 s.Made, .int .i64 s.Ends, .int .i64 s.Limit, .int .i64 s.Uses] 35); replace BKO := BKO.alloc (.cells #[.int .i64 s.Id, .int .i64 s.Parent, .slice An s.Names.length cn, .int .i64 s.Made, .int .i64 s.Ends, .int .i64 s.Limit, .int .i64 s.Uses] 35)
    clear BK5 BS hc5 hf5
    clear HCF hbK5 hbwK5 BK0 hc0 hf0 hl0 ha0 ha1 ha2 ha3 ha4 ha5 ha6 hb4 hrw3
    generalize (w4.alloc (.cells #[.int .i64 s.Id, .int .i64 s.Parent, .slice An s.Names.length cn, .int .i64 s.Made, .int .i64 s.Ends, .int .i64 s.Limit, .int .i64 s.Uses] 35)) = w5 at *
    have hz5 := hbK.size
    replace hcT := BKT.cell; replace hfT := BKT.frozen; replace hlT := BKT.lt
    replace hcO := BKO.cell; replace hfO := BKO.frozen; replace hlO := BKO.lt
    replace hc1 := BK1.cell; replace hf1 := BK1.frozen; replace hl1 := BK1.lt
    by_cases hf : n = 120
    · subst hf
      have HN := Lib.hid (make_full HC.out (by rw [Hn.out]; rfl))
      go_wp2
      refine bodyPost_ret (v := .tuple #[.agg #[.slice D 120 d], .int .i64 5]) (by simp [results, Try.results49, go_sem, hc1, hf1]) rfl ⟨[.slice D 120 d], by rw [HN.out.1], ?_, by (repeat (first | (with_reducible exact Below.refl _ _) | (with_reducible assumption) | ((with_reducible refine Below.setCell ?_ ?_ _); rotate_left; focus (first | omega | (simp; done) | (simp; omega))) | ((with_reducible refine Below.alloc ?_ ?_ _); rotate_left; focus (first | omega | (simp; done) | (simp; omega))) | (with_reducible refine Below.drew ?_) | (with_reducible refine below_drewN ?_ _) | (refine Below.trans ?_ (Below.mono (by with_reducible assumption) (by (first | omega | (simp; done) | (simp; omega)))))))⟩
      rw [HN.out.2]
      exact ForestR.own_wide (ForestR.own_off (ForestR.own_keep G0.out.forest hbK) (by (repeat (first | (with_reducible exact Out.refl _ _) | (with_reducible assumption) | ((with_reducible refine Out.setCell ?_ ?_ _); rotate_left; focus (first | (refine Or.inl ?_; (first | omega | (simp; done) | (simp; omega))) | (refine Or.inr ?_; (first | omega | (simp; done) | (simp; omega))))) | (with_reducible refine Out.alloc ?_ _) | (with_reducible refine Out.drew ?_) | (with_reducible refine Out.drewN ?_ _) | (refine Out.step ?_ (by with_reducible assumption)))))) (inR_mono (by first | omega | (simp; done) | (simp; omega)) (by first | omega | (simp; done) | (simp; omega)))
    have HN := Lib.hid (make_done HC.out (by rw [Hn.out]; exact beq_false_of_ne hf))
    have hfd : decide ((n : Int) = 120) = false := decide_eq_false (by omega)
    have hrow : w1.ownsRow (w.heap.size + 3) 35 7 (.slice D n d) n css.flatten := G0.out.row
    generalize hcf : css.flatten = cf at hrow
    have HCf := Lib.hid hcf
    clear hcf
    have hneO : some w1.heap.size ≠ (Value.slice D n d).ownBlock := fun e => by have := (hrow.lt _ e.symm).2; omega
    have hneR : some (w.heap.size + 1 + 1) ≠ (Value.slice D n d).ownBlock := fun e => by have := (hrow.lt _ e.symm).1; omega
    go_wp2_with fail
    have hbW : Below w1.heap.size w1 w5.drew := Below.drew hbK
    have hbWw : Below w.heap.size w w5.drew := Below.drew hbwK
    have BX2 : Blk w5.drew w1.heap.size 26 #[.slice D n d] := BKO.drew
    have hcx := BX2.cell; have hfx := BX2.frozen
    have BR2 : Blk w5.drew (w.heap.size + 1 + 1) 26 #[.slice none 0 0] := BK1.drew
    have BT2 : Blk w5.drew (w.heap.size + 1) 35 #[.int .i64 t.Id, .int .i64 t.Parent, .slice At t.Names.length ct, .int .i64 t.Made, .int .i64 t.Ends, .int .i64 t.Limit, .int .i64 t.Uses] := BKT.drew
    have hcT := BT2.cell
    have hzD : (w5.drew).heap.size = w5.heap.size := by simp
    have hrW : Reads w5.drew (w5.drew).heap.size At (t.Names.map strV) := hnr.keep hbWw (by omega)
    have hro : World.ownsRow w5.drew (w.heap.size + 3) 35 7 (.slice D n d) n cf := own_below hrow hbW
    go_region_law (first | (refine step_append_lies _ (by rfl) _ _ _ (by rfl) (w.heap.size + 3) 35 i0 _ 7 72 Try.underlying24 hi0 hz0' hz1' hz2' rfl (by omega) (.slice D n d) n cf (by rfl) ((own_below hro hb2x).alloc _) ⟨w2x.heap.size, 0, none⟩ 1 1 [.int .i64 t.Id, .int .i64 t.Parent, .slice D2 t.Names.length d2, .int .i64 t.Made, .int .i64 t.Ends, .int .i64 t.Limit, .int .i64 t.Uses] (by rfl) (by rfl) (World.news_of_block (cs := #[.int .i64 t.Id, .int .i64 t.Parent, .slice D2 t.Names.length d2, .int .i64 t.Made, .int .i64 t.Ends, .int .i64 t.Limit, .int .i64 t.Uses]) (t := 35) (fr := (0, 0)) (heap_alloc_new w2x _)) (by simp [Value.oneCell']) (by omega) (by simp only [maxLen]; omega) (by omega) (by simp; omega) (w2x.heap.size + 1) (by simp) ?_; intro gg cap w3x hown1 hgrow hat hlt1; have BY := Blk.grown (BX3.alloc (.cells #[.int .i64 t.Id, .int .i64 t.Parent, .slice D2 t.Names.length d2, .int .i64 t.Made, .int .i64 t.Ends, .int .i64 t.Limit, .int .i64 t.Uses] 35)) hgrow hneO; have hcY := BY.cell; have hfY := BY.frozen; have BZ := Blk.grown (BR3.alloc (.cells #[.int .i64 t.Id, .int .i64 t.Parent, .slice D2 t.Names.length d2, .int .i64 t.Made, .int .i64 t.Ends, .int .i64 t.Limit, .int .i64 t.Uses] 35)) hgrow hneR; have hcZ := BZ.cell; have hfZ := BZ.frozen) | (go_simp; go_at_call 50; refine (impl_cloneToken t At ct _ hrW (by omega)).mono ?_; rintro e w2x ⟨D2, d2, rfl, hox, hb2x⟩; have hsz2 := hb2x.size; have BX3 := BX2.keep hb2x; have hc3 := BX3.cell; have hf3 := BX3.frozen; have BR3 := BR2.keep hb2x; have BX4 := BX3.alloc (.cells #[.int .i64 t.Id, .int .i64 t.Parent, .slice D2 t.Names.length d2, .int .i64 t.Made, .int .i64 t.Ends, .int .i64 t.Limit, .int .i64 t.Uses] 35); have hc4 := BX4.cell; have hf4 := BX4.frozen))
    all_goals
      have hbA : Below w5.heap.size w5 (w2x.alloc (.cells #[.int .i64 t.Id, .int .i64 t.Parent, .slice D2 t.Names.length d2, .int .i64 t.Made, .int .i64 t.Ends, .int .i64 t.Limit, .int .i64 t.Uses] 35)) := Below.alloc ((Below.drew (Below.refl _ _)).trans (hb2x.mono (by omega))) (by omega) _
      have hoA := TokenR.own_keep (own_Token_row hox HNs.out) ((Below.refl _ w2x).alloc (Nat.le_refl _) (.cells #[.int .i64 t.Id, .int .i64 t.Parent, .slice D2 t.Names.length d2, .int .i64 t.Made, .int .i64 t.Ends, .int .i64 t.Limit, .int .i64 t.Uses] 35))
      have hS := Grow.snocOwn G0.out hbK hbA hoA (by omega) (by simp) (by omega) (by rw [HCf.out]; exact hown1) hgrow (hat.imp_right (fun h => by simpa using h)) (by decide)
      have hzg := hgrow.size
      have hzg2 : w2x.heap.size + 1 ≤ w3x.heap.size := by simpa using hzg
      have hrowlt : ∀ q, (Value.slice D n d).ownBlock = some q → w.heap.size + 3 ≤ q := fun q e => (hrow.lt q e).1
      have hbG : Below w.heap.size w w3x := Below.grown (hbwK.trans (hbA.mono (by omega))) hgrow (by simp; omega) (fun q e => by have := hrowlt q e; omega)
      have e1 : n + 1 = (ts ++ [t]).length := by rw [List.length_append, Hn.out]; rfl
      have hS2 := hS.out (w' := (w3x.setCell ⟨w1.heap.size, 0, none⟩ (.slice (some ⟨gg, 0, none⟩) (n + 1) cap)).setCell ⟨w.heap.size + 1 + 1, 0, none⟩ (.slice (some ⟨gg, 0, none⟩) (n + 1) cap)) (Out.setCell (S := fun q => q = w1.heap.size ∨ q = w.heap.size + 1 + 1) (Out.setCell (Out.refl _ _) (p := ⟨w1.heap.size, 0, none⟩) (Or.inl rfl) _) (p := ⟨w.heap.size + 1 + 1, 0, none⟩) (Or.inr rfl) _) (fun g hg hg2 => by rcases hg with hg | hg <;> (have h5 := hg.1; have h6 := hg.2; rcases hg2 with hg2 | hg2 <;> omega))
      have hsub : ∀ g, (InR (w.heap.size + 3) w1.heap.size g ∨ InR w5.heap.size w3x.heap.size g) → InR w.heap.size w3x.heap.size g := by
        intro g hg
        rcases hg with hg | hg
        · exact ⟨by have := hg.1; omega, by have := hg.2; omega⟩
        · exact ⟨by have := hg.1; omega, by have := hg.2; omega⟩
      rw [e1] at hS2
      have HO := Lib.hid (of_own_Forest (x := ⟨ts ++ [t]⟩) hS2 hsub)
      rw [← e1] at HO
      clear hS hS2 e1 hsub
      go_wp2
      refine bodyPost_ret (v := .tuple #[.agg #[.slice (some ⟨gg, 0, none⟩) (n + 1) cap], .int .i64 0]) (by simp [results, Try.results49, go_sem, hcY, hfY, hcZ, hfZ]) rfl ⟨[.slice (some ⟨gg, 0, none⟩) (n + 1) cap], by rw [HN.out.1], ?_, by (repeat (first | (with_reducible exact Below.refl _ _) | (with_reducible assumption) | ((with_reducible refine Below.setCell ?_ ?_ _); rotate_left; focus (first | omega | (simp; done) | (simp; omega))) | ((with_reducible refine Below.alloc ?_ ?_ _); rotate_left; focus (first | omega | (simp; done) | (simp; omega))) | (with_reducible refine Below.drew ?_) | (with_reducible refine below_drewN ?_ _) | (refine Below.trans ?_ (Below.mono (by with_reducible assumption) (by (first | omega | (simp; done) | (simp; omega)))))))⟩
      rw [HN.out.2]
      exact ForestR.own_wide HO.out (inR_mono (by first | omega | (simp; done) | (simp; omega)) (by first | omega | (simp; done) | (simp; omega)))
end Go.Proofs.Ytcfhnhhgnophhaa
namespace Go.Proofs.Ytcfhnhhgnophhaa
open Go.RowKit
set_option maxHeartbeats 1600000 in
theorem impl_MakeTokenL (cs : List Value) (f : Forest) (ct : List Value) (t : Token) (w : World) (h : ForestR.Rd w w.heap.size cs f) (h2 : TokenR.Rd w w.heap.size ct t) (hm : ForestR.sz f ≤ 1048576) (hm2 : TokenR.sz t ≤ 1048576) :
    Calls Try.prog 21 #[.agg cs.toArray, .agg ct.toArray] w fun e w' => ∃ cs', e = .returned (.tuple #[.agg cs'.toArray, .int .i64 (MakeC f.Tokens t)]) ∧ ForestR.Own w' (InR w.heap.size w'.heap.size) cs' ⟨MakeT f.Tokens t⟩ ∧ Below w.heap.size w w' := by
  obtain ⟨v0, rfl, q0⟩ := rd_Forest (_root_.id h)
  obtain ⟨A0, c0, rfl⟩ := q0.form
  obtain ⟨v1, rfl, q1⟩ := rd_Token (_root_.id h2)
  obtain ⟨At, c1, rfl⟩ := q1.form
  obtain ⟨-, hnr, -, -, hns⟩ := rd_StringS q1
  have HNR := Lib.hid (fun (w' : World) (hb : Below w.heap.size w w') (hz : w.heap.size ≤ w'.heap.size) => hnr.keep hb hz)
  have hnl : t.Names.length ≤ 1048576 := by rw [sz_Token, sz_StringS] at hm2; omega
  have HOk := Lib.hid (fun (w' : World) (h : ForestR.Rd w' w'.heap.size [.slice A0 f.Tokens.length c0] f) => impl_isForestL _ f w' h hm)
  have HR := Lib.hid (fun (w' : World) (hb : Below w.heap.size w w') (hz : w.heap.size ≤ w'.heap.size) => ForestR.rd_keep h hb hz)
  have HRs := Lib.hid (fun (w' : World) (hb : Below w.heap.size w w') (hz : w.heap.size ≤ w'.heap.size) => q0.keep hb hz)
  rw [sz_Forest] at hm
  have HCl := Lib.hid (fun (w' : World) (h : SlRd TokenR w' w'.heap.size (.slice A0 f.Tokens.length c0) f.Tokens) => impl_cloneForest A0 c0 f.Tokens w' h hm)
  have HMk := Lib.hid (fun (a) (w' : World) (h : SlRd TokenR w' w'.heap.size (.slice A0 f.Tokens.length c0) f.Tokens) (b : Reads w' w'.heap.size At (t.Names.map strV)) => impl_makeToken A0 c0 f.Tokens At c1 t w' h hm a b hns hnl)
  clear h h2 q0 q1 hm hm2 hnr hns hnl
  generalize hT : f.Tokens = ts at *
  clear hT
  generalize hn : ts.length = n at *
  go_enter Try.func21, Try.ntmps21
  go_wp2_with fail
  refine (HOk.out _ (HR.out _ (by (repeat (first | (with_reducible exact Below.refl _ _) | (with_reducible assumption) | ((with_reducible refine Below.setCell ?_ ?_ _); rotate_left; focus (first | omega | (simp; done) | (simp; omega))) | ((with_reducible refine Below.alloc ?_ ?_ _); rotate_left; focus (first | omega | (simp; done) | (simp; omega))) | (with_reducible refine Below.drew ?_) | (with_reducible refine below_drewN ?_ _) | (refine Below.trans ?_ (Below.mono (by with_reducible assumption) (by (first | omega | (simp; done) | (simp; omega)))))))) (by first | omega | (simp; done) | (simp; omega)))).mono ?_
  rintro e w1 ⟨rfl, hb1⟩
  have hz1 := hb1.size; try simp at hz1
  have BK0 : Blk w1 w.heap.size 26 #[.slice A0 n c0] := by (repeat (first | (with_reducible assumption) | ((with_reducible refine Blk.new' ?_); focus (simp; done)) | (with_reducible refine Blk.alloc ?_ _) | (with_reducible refine Blk.drew ?_) | (with_reducible refine Blk.drewN ?_ _) | ((with_reducible refine Blk.far ?_ ?_ _); rotate_left; focus (first | omega | (simp; done) | (simp; omega))) | (refine Blk.keep ?_ (by with_reducible assumption)) | (refine Blk.below ?_ (by with_reducible assumption) (by (first | omega | (simp; done) | (simp; omega))))))
  have BKT : Blk w1 (w.heap.size + 1) 35 #[.int .i64 t.Id, .int .i64 t.Parent, .slice At t.Names.length c1, .int .i64 t.Made, .int .i64 t.Ends, .int .i64 t.Limit, .int .i64 t.Uses] := by (repeat (first | (with_reducible assumption) | ((with_reducible refine Blk.new' ?_); focus (simp; done)) | (with_reducible refine Blk.alloc ?_ _) | (with_reducible refine Blk.drew ?_) | (with_reducible refine Blk.drewN ?_ _) | ((with_reducible refine Blk.far ?_ ?_ _); rotate_left; focus (first | omega | (simp; done) | (simp; omega))) | (refine Blk.keep ?_ (by with_reducible assumption)) | (refine Blk.below ?_ (by with_reducible assumption) (by (first | omega | (simp; done) | (simp; omega))))))
  have BK1 : Blk w1 (w.heap.size + 1 + 1) 26 #[.slice none 0 0] := by (repeat (first | (with_reducible assumption) | ((with_reducible refine Blk.new' ?_); focus (simp; done)) | (with_reducible refine Blk.alloc ?_ _) | (with_reducible refine Blk.drew ?_) | (with_reducible refine Blk.drewN ?_ _) | ((with_reducible refine Blk.far ?_ ?_ _); rotate_left; focus (first | omega | (simp; done) | (simp; omega))) | (refine Blk.keep ?_ (by with_reducible assumption)) | (refine Blk.below ?_ (by with_reducible assumption) (by (first | omega | (simp; done) | (simp; omega))))))
  have hc0 := BK0.cell; have hcT := BKT.cell; have hc1 := BK1.cell; have hf1 := BK1.frozen
  cases hok : forestOk ts
  · have HN := Lib.hid (Make_bad (t := t) hok)
    clear hok
    go_wp2_with fail
    refine (HCl.out _ (HRs.out _ (by (repeat (first | (with_reducible exact Below.refl _ _) | (with_reducible assumption) | ((with_reducible refine Below.setCell ?_ ?_ _); rotate_left; focus (first | omega | (simp; done) | (simp; omega))) | ((with_reducible refine Below.alloc ?_ ?_ _); rotate_left; focus (first | omega | (simp; done) | (simp; omega))) | (with_reducible refine Below.drew ?_) | (with_reducible refine below_drewN ?_ _) | (refine Below.trans ?_ (Below.mono (by with_reducible assumption) (by (first | omega | (simp; done) | (simp; omega)))))))) (by first | omega | (simp; done) | (simp; omega)))).mono ?_
    rintro e w2 ⟨D, d, css, rfl, G, hb2⟩
    have hz2 := hb2.size; try simp at hz2
    have G0 := Lib.hid G
    clear G
    replace BK1 := BK1.keep hb2
    replace hc1 := BK1.cell; replace hf1 := BK1.frozen
    go_wp2
    refine bodyPost_ret (v := .tuple #[.agg #[.slice D n d], .int .i64 1]) (by simp [results, Try.results21, go_sem, hc1, hf1]) rfl ⟨[.slice D n d], by rw [HN.out.1], ?_, by (repeat (first | (with_reducible exact Below.refl _ _) | (with_reducible assumption) | ((with_reducible refine Below.setCell ?_ ?_ _); rotate_left; focus (first | omega | (simp; done) | (simp; omega))) | ((with_reducible refine Below.alloc ?_ ?_ _); rotate_left; focus (first | omega | (simp; done) | (simp; omega))) | (with_reducible refine Below.drew ?_) | (with_reducible refine below_drewN ?_ _) | (refine Below.trans ?_ (Below.mono (by with_reducible assumption) (by (first | omega | (simp; done) | (simp; omega)))))))⟩
    rw [HN.out.2]
    exact ForestR.own_wide (ForestR.own_off G0.out.forest (by (repeat (first | (with_reducible exact Out.refl _ _) | (with_reducible assumption) | ((with_reducible refine Out.setCell ?_ ?_ _); rotate_left; focus (first | (refine Or.inl ?_; (first | omega | (simp; done) | (simp; omega))) | (refine Or.inr ?_; (first | omega | (simp; done) | (simp; omega))))) | (with_reducible refine Out.alloc ?_ _) | (with_reducible refine Out.drew ?_) | (with_reducible refine Out.drewN ?_ _) | (refine Out.step ?_ (by with_reducible assumption)))))) (inR_mono (by first | omega | (simp; done) | (simp; omega)) (by first | omega | (simp; done) | (simp; omega)))
  have HN := Lib.hid (Make_good (t := t) hok)
  go_wp2_with fail
  refine (HMk.out hok _ (HRs.out _ (by (repeat (first | (with_reducible exact Below.refl _ _) | (with_reducible assumption) | ((with_reducible refine Below.setCell ?_ ?_ _); rotate_left; focus (first | omega | (simp; done) | (simp; omega))) | ((with_reducible refine Below.alloc ?_ ?_ _); rotate_left; focus (first | omega | (simp; done) | (simp; omega))) | (with_reducible refine Below.drew ?_) | (with_reducible refine below_drewN ?_ _) | (refine Below.trans ?_ (Below.mono (by with_reducible assumption) (by (first | omega | (simp; done) | (simp; omega)))))))) (by first | omega | (simp; done) | (simp; omega))) (HNR.out _ (by (repeat (first | (with_reducible exact Below.refl _ _) | (with_reducible assumption) | ((with_reducible refine Below.setCell ?_ ?_ _); rotate_left; focus (first | omega | (simp; done) | (simp; omega))) | ((with_reducible refine Below.alloc ?_ ?_ _); rotate_left; focus (first | omega | (simp; done) | (simp; omega))) | (with_reducible refine Below.drew ?_) | (with_reducible refine below_drewN ?_ _) | (refine Below.trans ?_ (Below.mono (by with_reducible assumption) (by (first | omega | (simp; done) | (simp; omega)))))))) (by first | omega | (simp; done) | (simp; omega)))).mono ?_
  rintro e w2 ⟨cs2, rfl, ho2, hb2⟩
  obtain ⟨v2, _, rfl, p2, -⟩ := own_Forest (_root_.id ho2)
  obtain ⟨D, d, rfl⟩ := p2.form
  have hz2 := hb2.size; try simp at hz2
  replace BK1 := BK1.keep hb2
  replace hc1 := BK1.cell; replace hf1 := BK1.frozen
  go_wp2
  refine bodyPost_ret (v := .tuple #[.agg #[.slice D (makeT ts t).length d], .int .i64 (makeC ts t)]) (by simp [results, Try.results21, go_sem, hc1, hf1]) rfl ⟨[.slice D (makeT ts t).length d], by rw [HN.out.1], ?_, by (repeat (first | (with_reducible exact Below.refl _ _) | (with_reducible assumption) | ((with_reducible refine Below.setCell ?_ ?_ _); rotate_left; focus (first | omega | (simp; done) | (simp; omega))) | ((with_reducible refine Below.alloc ?_ ?_ _); rotate_left; focus (first | omega | (simp; done) | (simp; omega))) | (with_reducible refine Below.drew ?_) | (with_reducible refine below_drewN ?_ _) | (refine Below.trans ?_ (Below.mono (by with_reducible assumption) (by (first | omega | (simp; done) | (simp; omega)))))))⟩
  rw [HN.out.2]
  exact ForestR.own_wide (ForestR.own_off ho2 (by (repeat (first | (with_reducible exact Out.refl _ _) | (with_reducible assumption) | ((with_reducible refine Out.setCell ?_ ?_ _); rotate_left; focus (first | (refine Or.inl ?_; (first | omega | (simp; done) | (simp; omega))) | (refine Or.inr ?_; (first | omega | (simp; done) | (simp; omega))))) | (with_reducible refine Out.alloc ?_ _) | (with_reducible refine Out.drew ?_) | (with_reducible refine Out.drewN ?_ _) | (refine Out.step ?_ (by with_reducible assumption)))))) (inR_mono (by first | omega | (simp; done) | (simp; omega)) (by first | omega | (simp; done) | (simp; omega)))
end Go.Proofs.Ytcfhnhhgnophhaa

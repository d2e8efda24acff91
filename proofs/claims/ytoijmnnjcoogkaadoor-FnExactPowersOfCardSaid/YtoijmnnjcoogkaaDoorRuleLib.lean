/- Rules: slices.Clone, l08CopyPolicy of the reference (printed by wip/gen/genrulelib.py). -/
import Derived.Test.YtoijmnnjcoogkaaDoorPurePol
import Derived.Test.YtoijmnnjcoogkaaDoorAppend
import Derived.Deep.DeepCutAuto
set_option linter.unusedSimpArgs false
set_option linter.unusedVariables false
set_option maxRecDepth 20000
namespace Go.Proofs.YtoijmnnjcoogkaaDoor
open Go.RowKit
theorem rules_one (xs : List Rule) : ∀ u ∈ xs.flatMap Rule.cells, u.oneCell' = true := by
  intro u hu
  obtain ⟨x, _, h⟩ := List.mem_flatMap.1 hu
  exact x.one u h
theorem reads_RuleS {w : World} {B n : Nat} {A : Option Addr} {c : Nat} {xs : List Rule} (h : SlRd RuleR w B (.slice A n c) xs) : Reads w B A (xs.flatMap Rule.cells) ∧ ∀ x ∈ xs, x.Glob.size ≤ 9223372036854775807 := by
  obtain ⟨h1, h2, h3, h4, h5⟩ := SlRd.reads (by omega) h
  exact ⟨h2, h5⟩
theorem of_own_RuleS {w : World} {base : Nat} {A : Option Addr} {c n : Nat} {xs : List Rule} (h : w.ownsRow base 72 2 (.slice A n c) n (xs.flatMap Rule.cells)) (hn : xs.length = n) (hok : ∀ x ∈ xs, x.Glob.size ≤ 9223372036854775807) : SlOwn RuleR 72 w (InR base w.heap.size) (.slice A n c) xs := by
  subst hn
  exact (SlOwn.of_own (by omega) h hok).wide (own_inR h)
theorem rd_own_RuleS {w : World} {base : Nat} {A : Option Addr} {c n : Nat} {xs : List Rule} (h : w.ownsRow base 72 2 (.slice A n c) n (xs.flatMap Rule.cells)) (hn : xs.length = n) (hok : ∀ x ∈ xs, x.Glob.size ≤ 9223372036854775807) : SlRd RuleR w w.heap.size (.slice A n c) xs :=
  (of_own_RuleS h hn hok).rd (fun g hg => hg.2)
set_option maxHeartbeats 800000 in
theorem slices_Clone_Rule (A : Option Addr) (c : Nat) (xs : List Rule) (w : World) (hr : Reads w w.heap.size A (xs.flatMap Rule.cells)) (hm : xs.length ≤ 1073741824) :
    Calls Tryd.prog 46 #[.slice A xs.length c] w fun e w' => ∃ A1 c1, e = .returned (.slice A1 xs.length c1) ∧ w'.ownsRow w.heap.size 72 2 (.slice A1 xs.length c1) xs.length (xs.flatMap Rule.cells) ∧ Below w.heap.size w w' := by
  obtain ⟨i0, hi0, hI0, hI1, hI2⟩ := info_parts info_Rule
  generalize hn : xs.length = n at hm
  have Hn := Lib.hid hn
  have hnil := fun w => Lib.run_eql_slice_nil (P := Tryd.prog) w 53 72 A n c 0 0 Tryd.underlying53
  cases A with
  | none =>
    have hx : xs = [] := by
      cases xs with
      | nil => rfl
      | cons x xs => obtain ⟨b, off, h, _⟩ := hr (by simp [Rule.cells]); cases h
    subst hx
    obtain rfl : n = 0 := hn.symm
    clear hn
    go_enter Tryd.func46, Tryd.ntmps46
    go_wp2
    go_ret
    exact ⟨none, 0, rfl, World.ownsRow_nil _ _ _ _, by (repeat (first | (with_reducible exact Below.refl _ _) | (with_reducible assumption) | ((with_reducible refine Below.setCell ?_ ?_ _); rotate_left; focus (first | omega | (simp; done) | (simp; omega))) | ((with_reducible refine Below.alloc ?_ ?_ _); rotate_left; focus (first | omega | (simp; done) | (simp; omega))) | (with_reducible refine Below.drew ?_) | (with_reducible refine below_drewN ?_ _) | (refine Below.trans ?_ (Below.mono (by with_reducible assumption) (by (first | omega | (simp; done) | (simp; omega)))))))⟩
  | some a =>
    clear hn
    have hown0 : World.ownsRow _ _ 72 2 _ _ _ := World.ownsRow_lit w #[] 0 (Nat.le_refl _) (by simp [maxLen]) rfl
    have H1 := Lib.hid (rules_one xs)
    have hrA : Reads (w.alloc (.cells #[] 72)) w.heap.size (some a) (xs.flatMap Rule.cells) := hr.below (by (repeat (first | (with_reducible exact Below.refl _ _) | (with_reducible assumption) | ((with_reducible refine Below.setCell ?_ ?_ _); rotate_left; focus (first | omega | (simp; done) | (simp; omega))) | ((with_reducible refine Below.alloc ?_ ?_ _); rotate_left; focus (first | omega | (simp; done) | (simp; omega))) | (with_reducible refine Below.drew ?_) | (with_reducible refine below_drewN ?_ _) | (refine Below.trans ?_ (Below.mono (by with_reducible assumption) (by (first | omega | (simp; done) | (simp; omega)))))))) (Nat.le_refl _)
    go_enter Tryd.func46, Tryd.ntmps46
    go_wp2_with (first | (at_builtin; go_loud (refine wpList_append_reads rfl _ _ 53 rfl w.heap.size 72 i0 _ 2 24 Tryd.underlying53 hi0 hI0 hI1 hI2 rfl (by decide) _ _ _ rfl hown0 w.heap.size (some a) n c (xs.flatMap Rule.cells) rfl ?c0 hrA H1.out ?c3 ?c4 ?c5 ?_; (case c0 => rw [flat_length Rule.cells 2 Rule.len, Hn.out]); (case c3 => (simp only [maxLen]; omega)); (case c4 => omega); (case c5 => (first | omega | (simp; done) | (simp; omega))); intro v' wA hown1 hgrow hat; obtain ⟨A1, c1, rfl⟩ := own_slice hown1)))
    go_ret
    refine ⟨A1, c1, by simp, by simpa using hown1, ?_⟩
    exact Below.grown ((Below.refl _ _).alloc (Nat.le_refl _) _) hgrow (by simp) (fun g e => (hown0.lt _ e).1)
set_option maxHeartbeats 3200000 in
theorem spec_l08CopyPolicy (nm : ByteArray) (A0 : Option Addr) (c0 : Nat) (ls : List Rule) (w : World) (hr : SlRd RuleR w w.heap.size (.slice A0 ls.length c0) ls) (hml : ls.length ≤ 1048576) :
    Calls Tryd.prog 20 #[.agg #[.string nm, .slice A0 ls.length c0]] w fun e w' => ∃ A d, e = .returned (.agg #[.string nm, .slice A ls.length d]) ∧ w'.ownsRow w.heap.size 72 2 (.slice A ls.length d) ls.length (ls.flatMap Rule.cells) ∧ Below w.heap.size w w' := by
  obtain ⟨i0, hi0, hz0, hz1', hz2'⟩ := info_parts info_Rule
  generalize hn : ls.length = n at *
  have Hn := Lib.hid hn
  clear hn
  go_enter Tryd.func20, Tryd.ntmps20
  go_wp2
  go_loopw [4] (fun i wr => ∃ (k : Nat) (A2 : Option Addr) (c2 : Nat), k ≤ n ∧ i = .int .i64 k ∧ Below w.heap.size w wr ∧ w.heap.size + 3 ≤ wr.heap.size ∧ Blk wr w.heap.size 55 #[.string nm, .slice A0 n c0] ∧ Blk wr (w.heap.size + 1) 55 #[.string ⟨#[]⟩, .slice none 0 0] ∧ Blk wr (w.heap.size + 2) 55 #[.string nm, .slice A2 k c2] ∧ Hid (wr.ownsRow (w.heap.size + 3) 72 2 (.slice A2 k c2) k ((ls.take k).flatMap Rule.cells))) (fun i _ => n - (intOf i).toNat)
  case atStart => exact ⟨0, none, 0, Nat.zero_le _, rfl, by (repeat (first | (with_reducible exact Below.refl _ _) | (with_reducible assumption) | ((with_reducible refine Below.setCell ?_ ?_ _); rotate_left; focus (first | omega | (simp; done) | (simp; omega))) | ((with_reducible refine Below.alloc ?_ ?_ _); rotate_left; focus (first | omega | (simp; done) | (simp; omega))) | (with_reducible refine Below.drew ?_) | (with_reducible refine below_drewN ?_ _) | (refine Below.trans ?_ (Below.mono (by with_reducible assumption) (by (first | omega | (simp; done) | (simp; omega))))))), by simp, by (repeat (first | (with_reducible assumption) | ((with_reducible refine Blk.new' ?_); focus (simp; done)) | (with_reducible refine Blk.alloc ?_ _) | (with_reducible refine Blk.drew ?_) | (with_reducible refine Blk.drewN ?_ _) | ((with_reducible refine Blk.far ?_ ?_ _); rotate_left; focus (first | omega | (simp; done) | (simp; omega))) | (refine Blk.keep ?_ (by with_reducible assumption)) | (refine Blk.below ?_ (by with_reducible assumption) (by (first | omega | (simp; done) | (simp; omega)))))), by (repeat (first | (with_reducible assumption) | ((with_reducible refine Blk.new' ?_); focus (simp; done)) | (with_reducible refine Blk.alloc ?_ _) | (with_reducible refine Blk.drew ?_) | (with_reducible refine Blk.drewN ?_ _) | ((with_reducible refine Blk.far ?_ ?_ _); rotate_left; focus (first | omega | (simp; done) | (simp; omega))) | (refine Blk.keep ?_ (by with_reducible assumption)) | (refine Blk.below ?_ (by with_reducible assumption) (by (first | omega | (simp; done) | (simp; omega)))))), by (repeat (first | (with_reducible assumption) | ((with_reducible refine Blk.new' ?_); focus (simp; done)) | (with_reducible refine Blk.alloc ?_ _) | (with_reducible refine Blk.drew ?_) | (with_reducible refine Blk.drewN ?_ _) | ((with_reducible refine Blk.far ?_ ?_ _); rotate_left; focus (first | omega | (simp; done) | (simp; omega))) | (refine Blk.keep ?_ (by with_reducible assumption)) | (refine Blk.below ?_ (by with_reducible assumption) (by (first | omega | (simp; done) | (simp; omega)))))), Lib.hid (World.ownsRow_nil _ _ _ _)⟩
  case round =>
    obtain ⟨k, A2, c2, hk, rfl, hb, hzr, BK0, BK1, BO, H2⟩ := hrel
    have hc0 := BK0.cell; have hf0 := BK0.frozen; have hl0 := BK0.lt; have hc1 := BK1.cell; have hf1 := BK1.frozen; have hl1 := BK1.lt; have hcO := BO.cell; have hfO := BO.frozen; have hlO := BO.lt
    have h2 := H2.out
    clear H2
    by_cases hlt : k < n
    rotate_left
    · obtain rfl : k = n := by omega
      rw [List.take_of_length_le (by rw [Hn.out]; exact Nat.le_refl _)] at h2
      go_wp2
      refine bodyPost_ret (v := .agg #[.string nm, .slice A2 k c2]) (by simp [results, Tryd.results20, go_sem, hc1, hf1]) rfl ⟨A2, c2, rfl, ?_, by (repeat (first | (with_reducible exact Below.refl _ _) | (with_reducible assumption) | ((with_reducible refine Below.setCell ?_ ?_ _); rotate_left; focus (first | omega | (simp; done) | (simp; omega))) | ((with_reducible refine Below.alloc ?_ ?_ _); rotate_left; focus (first | omega | (simp; done) | (simp; omega))) | (with_reducible refine Below.drew ?_) | (with_reducible refine below_drewN ?_ _) | (refine Below.trans ?_ (Below.mono (by with_reducible assumption) (by (first | omega | (simp; done) | (simp; omega)))))))⟩
      exact own_base (own_setCell (own_setCell h2 (by first | omega | (simp; done) | (simp; omega)) _) (by first | omega | (simp; done) | (simp; omega)) _) (by first | omega | (simp; done) | (simp; omega))
    have hlx : k < ls.length := by rw [Hn.out]; exact hlt
    have HG := Lib.hid (List.getElem?_eq_getElem hlx)
    generalize ls[k]'hlx = l at HG
    clear hlx
    obtain ⟨b, off, rfl, hab, hps, hq0, hq1⟩ := rule_elem (hr.below hb (Nat.le_refl _)) HG.out
    have hzb := hb.size
    have h2lt : ∀ q, (Value.slice A2 k c2).ownBlock = some q → w.heap.size + 3 ≤ q ∧ q < wr.heap.size := fun q e => h2.lt q e
    go_wp2
    have hcA := (BO.alloc (.cells #[.string l.Glob, .int .i64 l.Caps] 72)).cell
    go_region_law (refine step_append_lies _ (by rfl) _ _ _ (by rfl) (w.heap.size + 3) 72 i0 _ 2 24 Tryd.underlying53 hi0 hz0 hz1' hz2' rfl (by omega) (.slice A2 k c2) k _ (by rfl) ((h2.alloc _).drew) ⟨wr.heap.size, 0, none⟩ 1 1 [.string l.Glob, .int .i64 l.Caps] (by rfl) (by rfl) (World.news_of_block (cs := #[.string l.Glob, .int .i64 l.Caps]) (t := 72) (fr := (0, 0)) (heap_alloc_new wr _)) (by simp [Value.oneCell']) (by omega) (by simp only [maxLen]; omega) (by omega) (by simp; omega) (wr.heap.size + 1) (by simp) ?_; intro gg cap w4 hown1 hgrow hat hlt1; have BX := Blk.grown (BO.alloc (.cells #[.string l.Glob, .int .i64 l.Caps] 72)).drew hgrow (fun e => by have := (h2lt _ e.symm).1; omega); have hcX := BX.cell; have hfX := BX.frozen)
    all_goals
      go_wp2
      go_roundw
      case rel =>
        have hzg := hgrow.size
        have hzg2 : wr.heap.size + 1 ≤ w4.heap.size := by simpa using hzg
        have hbA : Below w.heap.size w (wr.alloc (.cells #[.string l.Glob, .int .i64 l.Caps] 72)).drew := Below.drew (Below.alloc hb (by omega) _)
        have hneI : ∀ q, q < w.heap.size + 3 → some q ≠ (Value.slice A2 k c2).ownBlock := fun q hq e => by have := (h2lt _ e.symm).1; omega
        refine ⟨k + 1, some ⟨gg, 0, none⟩, cap, by omega, by go_num, ?_, by simp; omega, ?_, ?_, ?_, Lib.hid ?_⟩
        · exact (Below.grown hbA hgrow (by simp; omega) (fun q e => by have := h2lt q e; omega)).setCell (by simp; try omega) _
        · exact ((BK0.alloc (.cells #[.string l.Glob, .int .i64 l.Caps] 72)).drew.grown hgrow (hneI _ (by omega))).far (by simp; try omega) _
        · exact ((BK1.alloc (.cells #[.string l.Glob, .int .i64 l.Caps] 72)).drew.grown hgrow (hneI _ (by omega))).far (by simp; try omega) _
        · have hB := BX.set_ 1 (.slice (some ⟨gg, 0, none⟩) (k + 1) cap)
          simpa using hB
        · refine own_setCell ?_ (by simp) _
          rw [take_snoc HG.out, List.flatMap_append]
          simpa [Rule.cells] using hown1
      case measure => simp [intOf]; omega
end Go.Proofs.YtoijmnnjcoogkaaDoor

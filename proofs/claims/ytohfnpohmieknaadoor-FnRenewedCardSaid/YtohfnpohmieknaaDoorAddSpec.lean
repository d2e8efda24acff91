/- AddLease of the reference. -/
import Derived.Test.YtohfnpohmieknaaDoorAddImplL
import Derived.Deep.DeepCutAuto
set_option linter.unusedSimpArgs false
set_option linter.unusedVariables false
set_option maxRecDepth 20000
namespace Go.Proofs.YtohfnpohmieknaaDoor
open Go.RowKit
set_option maxHeartbeats 3200000 in
theorem spec_l09Copy (A0 : Option Addr) (c0 : Nat) (ls : List Lease) (w : World) (hr : SlRd LeaseR w w.heap.size (.slice A0 ls.length c0) ls) (hml : ls.length ≤ 1048576) :
    Calls Tryd.prog 14 #[.agg #[.slice A0 ls.length c0]] w fun e w' => ∃ A d, e = .returned (.agg #[.slice A ls.length d]) ∧ w'.ownsRow w.heap.size 32 6 (.slice A ls.length d) ls.length (ls.flatMap Lease.cells) ∧ Below w.heap.size w w' := by
  obtain ⟨i0, hi0, hz0, hz1', hz2'⟩ := info_parts info_Lease
  generalize hn : ls.length = n at *
  have Hn := Lib.hid hn
  clear hn
  go_enter Tryd.func14, Tryd.ntmps14
  go_wp2
  go_loopw [4] (fun i wr => ∃ (k : Nat) (A2 : Option Addr) (c2 : Nat), k ≤ n ∧ i = .int .i64 k ∧ Below w.heap.size w wr ∧ w.heap.size + 3 ≤ wr.heap.size ∧ Blk wr w.heap.size 26 #[.slice A0 n c0] ∧ Blk wr (w.heap.size + 1) 26 #[.slice none 0 0] ∧ Blk wr (w.heap.size + 2) 26 #[.slice A2 k c2] ∧ Hid (wr.ownsRow (w.heap.size + 3) 32 6 (.slice A2 k c2) k ((ls.take k).flatMap Lease.cells))) (fun i _ => n - (intOf i).toNat)
  case atStart => exact ⟨0, none, 0, Nat.zero_le _, rfl, by (repeat (first | (with_reducible exact Below.refl _ _) | (with_reducible assumption) | ((with_reducible refine Below.setCell ?_ ?_ _); rotate_left; focus (first | omega | (simp; done) | (simp; omega))) | ((with_reducible refine Below.alloc ?_ ?_ _); rotate_left; focus (first | omega | (simp; done) | (simp; omega))) | (with_reducible refine Below.drew ?_) | (with_reducible refine below_drewN ?_ _) | (refine Below.trans ?_ (Below.mono (by with_reducible assumption) (by (first | omega | (simp; done) | (simp; omega))))))), by simp, by (repeat (first | (with_reducible assumption) | ((with_reducible refine Blk.new' ?_); focus (simp; done)) | (with_reducible refine Blk.alloc ?_ _) | (with_reducible refine Blk.drew ?_) | (with_reducible refine Blk.drewN ?_ _) | ((with_reducible refine Blk.far ?_ ?_ _); rotate_left; focus (first | omega | (simp; done) | (simp; omega))) | (refine Blk.keep ?_ (by with_reducible assumption)) | (refine Blk.below ?_ (by with_reducible assumption) (by (first | omega | (simp; done) | (simp; omega)))))), by (repeat (first | (with_reducible assumption) | ((with_reducible refine Blk.new' ?_); focus (simp; done)) | (with_reducible refine Blk.alloc ?_ _) | (with_reducible refine Blk.drew ?_) | (with_reducible refine Blk.drewN ?_ _) | ((with_reducible refine Blk.far ?_ ?_ _); rotate_left; focus (first | omega | (simp; done) | (simp; omega))) | (refine Blk.keep ?_ (by with_reducible assumption)) | (refine Blk.below ?_ (by with_reducible assumption) (by (first | omega | (simp; done) | (simp; omega)))))), by (repeat (first | (with_reducible assumption) | ((with_reducible refine Blk.new' ?_); focus (simp; done)) | (with_reducible refine Blk.alloc ?_ _) | (with_reducible refine Blk.drew ?_) | (with_reducible refine Blk.drewN ?_ _) | ((with_reducible refine Blk.far ?_ ?_ _); rotate_left; focus (first | omega | (simp; done) | (simp; omega))) | (refine Blk.keep ?_ (by with_reducible assumption)) | (refine Blk.below ?_ (by with_reducible assumption) (by (first | omega | (simp; done) | (simp; omega)))))), Lib.hid (World.ownsRow_nil _ _ _ _)⟩
  case round =>
    obtain ⟨k, A2, c2, hk, rfl, hb, hzr, BK0, BK1, BO, H2⟩ := hrel
    have hc0 := BK0.cell; have hf0 := BK0.frozen; have hl0 := BK0.lt; have hc1 := BK1.cell; have hf1 := BK1.frozen; have hl1 := BK1.lt; have hcO := BO.cell; have hfO := BO.frozen; have hlO := BO.lt
    have h2 := H2.out
    clear H2
    by_cases hlt : k < n
    rotate_left
    · obtain rfl : k = n := by omega
      rw [List.take_of_length_le (by rw [Hn.out]; exact Nat.le_refl _)] at h2
      go_wp2
      refine bodyPost_ret (v := .agg #[.slice A2 k c2]) (by simp [results, Tryd.results14, go_sem, hc1, hf1]) rfl ⟨A2, c2, rfl, ?_, by (repeat (first | (with_reducible exact Below.refl _ _) | (with_reducible assumption) | ((with_reducible refine Below.setCell ?_ ?_ _); rotate_left; focus (first | omega | (simp; done) | (simp; omega))) | ((with_reducible refine Below.alloc ?_ ?_ _); rotate_left; focus (first | omega | (simp; done) | (simp; omega))) | (with_reducible refine Below.drew ?_) | (with_reducible refine below_drewN ?_ _) | (refine Below.trans ?_ (Below.mono (by with_reducible assumption) (by (first | omega | (simp; done) | (simp; omega)))))))⟩
      exact own_base (own_setCell h2 (by first | omega | (simp; done) | (simp; omega)) _) (by first | omega | (simp; done) | (simp; omega))
    have hlx : k < ls.length := by rw [Hn.out]; exact hlt
    have HG := Lib.hid (List.getElem?_eq_getElem hlx)
    generalize ls[k]'hlx = l at HG
    clear hlx
    obtain ⟨b, off, rfl, hab, hps, hq0, hq1, hq2, hq3, hq4, hq5⟩ := lease_elem (hr.below hb (Nat.le_refl _)) HG.out
    have hzb := hb.size
    have h2lt : ∀ q, (Value.slice A2 k c2).ownBlock = some q → w.heap.size + 3 ≤ q ∧ q < wr.heap.size := fun q e => h2.lt q e
    go_wp2
    have hcA := (BO.alloc (.cells #[.int .i64 l.Id, .int .i64 l.Token, .string l.Path, .int .i64 l.Made, .int .i64 l.Ends, .int .i64 l.Limit] 32)).cell
    go_region_law (refine step_append_lies _ (by rfl) _ _ _ (by rfl) (w.heap.size + 3) 32 i0 _ 6 56 Tryd.underlying24 hi0 hz0 hz1' hz2' rfl (by omega) (.slice A2 k c2) k _ (by rfl) ((h2.alloc _).drew) ⟨wr.heap.size, 0, none⟩ 1 1 [.int .i64 l.Id, .int .i64 l.Token, .string l.Path, .int .i64 l.Made, .int .i64 l.Ends, .int .i64 l.Limit] (by rfl) (by rfl) (World.news_of_block (cs := #[.int .i64 l.Id, .int .i64 l.Token, .string l.Path, .int .i64 l.Made, .int .i64 l.Ends, .int .i64 l.Limit]) (t := 32) (fr := (0, 0)) (heap_alloc_new wr _)) (by simp [Value.oneCell']) (by omega) (by simp only [maxLen]; omega) (by omega) (by simp; omega) (wr.heap.size + 1) (by simp) ?_; intro gg cap w4 hown1 hgrow hat hlt1; have BX := Blk.grown (BO.alloc (.cells #[.int .i64 l.Id, .int .i64 l.Token, .string l.Path, .int .i64 l.Made, .int .i64 l.Ends, .int .i64 l.Limit] 32)).drew hgrow (fun e => by have := (h2lt _ e.symm).1; omega); have hcX := BX.cell; have hfX := BX.frozen)
    all_goals
      go_wp2
      go_roundw
      case rel =>
        have hzg := hgrow.size
        have hzg2 : wr.heap.size + 1 ≤ w4.heap.size := by simpa using hzg
        have hbA : Below w.heap.size w (wr.alloc (.cells #[.int .i64 l.Id, .int .i64 l.Token, .string l.Path, .int .i64 l.Made, .int .i64 l.Ends, .int .i64 l.Limit] 32)).drew := Below.drew (Below.alloc hb (by omega) _)
        have hneI : ∀ q, q < w.heap.size + 3 → some q ≠ (Value.slice A2 k c2).ownBlock := fun q hq e => by have := (h2lt _ e.symm).1; omega
        refine ⟨k + 1, some ⟨gg, 0, none⟩, cap, by omega, by go_num, ?_, by simp; omega, ?_, ?_, ?_, Lib.hid ?_⟩
        · exact (Below.grown hbA hgrow (by simp; omega) (fun q e => by have := h2lt q e; omega)).setCell (by simp; try omega) _
        · exact ((BK0.alloc (.cells #[.int .i64 l.Id, .int .i64 l.Token, .string l.Path, .int .i64 l.Made, .int .i64 l.Ends, .int .i64 l.Limit] 32)).drew.grown hgrow (hneI _ (by omega))).far (by simp; try omega) _
        · exact ((BK1.alloc (.cells #[.int .i64 l.Id, .int .i64 l.Token, .string l.Path, .int .i64 l.Made, .int .i64 l.Ends, .int .i64 l.Limit] 32)).drew.grown hgrow (hneI _ (by omega))).far (by simp; try omega) _
        · have hB := BX.set_ 0 (.slice (some ⟨gg, 0, none⟩) (k + 1) cap)
          simpa using hB
        · refine own_setCell ?_ (by simp) _
          rw [take_snoc HG.out, List.flatMap_append]
          simpa [Lease.cells] using hown1
      case measure => simp [intOf]; omega
end Go.Proofs.YtohfnpohmieknaaDoor

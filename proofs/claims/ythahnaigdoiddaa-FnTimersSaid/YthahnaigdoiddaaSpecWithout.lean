/- spec.l07Without (turned from l07Copy). -/
import Derived.Test.YthahnaigdoiddaaSpecClock2
import Derived.Test.YthahnaigdoiddaaPureStop
set_option linter.unusedSimpArgs false
set_option linter.unusedVariables false
set_option maxRecDepth 20000
namespace Go.Proofs.Ythahnaigdoiddaa
open Go.RowKit
set_option maxHeartbeats 1600000 in
theorem spec_l07Without (now : Int) (A : Option Addr) (c : Nat) (ts : List Timer) (id : Int) (w : World) (hr : Reads w w.heap.size A (ts.flatMap Timer.cells)) (hm : ts.length ≤ 1048576) :
    Calls Try.prog 44 #[.agg #[.int .i64 now, .slice A ts.length c], .int .i64 id] w fun e w' => ∃ A1 c1, e = .returned (.agg #[.int .i64 now, .slice A1 (without ts id).length c1]) ∧ w'.ownsRow w.heap.size 52 2 (.slice A1 (without ts id).length c1) (without ts id).length ((without ts id).flatMap Timer.cells) ∧ Below w.heap.size w w' := by
  obtain ⟨i0, hi0, hz0, hz1, hz2⟩ := info_parts info_Timer
  generalize hn : ts.length = n at hm
  have Hn := Lib.hid hn
  clear hn
  go_enter Try.func44, Try.ntmps44
  go_wp2
  go_loopw [6] (fun i wr => ∃ (k : Nat) (L : List Timer) (A1 : Option Addr) (c1 : Nat), k ≤ n ∧ L.length ≤ k ∧ Hid (L = without (ts.take k) id) ∧ i = .int .i64 k ∧ Below w.heap.size w wr ∧ w.heap.size + 3 ≤ wr.heap.size ∧ Blk wr w.heap.size 26 #[.int .i64 now, .slice A n c] ∧ Blk wr (w.heap.size + 1) 26 #[.int .i64 0, .slice none 0 0] ∧
      Blk wr (w.heap.size + 1 + 1) 26 #[.int .i64 now, .slice A1 L.length c1] ∧ wr.ownsRow (w.heap.size + 3) 52 2 (.slice A1 L.length c1) L.length (L.flatMap Timer.cells)) (fun i _ => n - (intOf i).toNat)
  case atStart => exact ⟨0, [], none, 0, Nat.zero_le _, Nat.zero_le _, rfl, rfl, by (repeat (first | (with_reducible exact Below.refl _ _) | (with_reducible assumption) | ((with_reducible refine Below.setCell ?_ ?_ _); rotate_left; focus (first | omega | (simp; done) | (simp; omega))) | ((with_reducible refine Below.alloc ?_ ?_ _); rotate_left; focus (first | omega | (simp; done) | (simp; omega))) | (with_reducible refine Below.drew ?_) | (with_reducible refine below_drewN ?_ _) | (refine Below.trans ?_ (Below.mono (by with_reducible assumption) (by (first | omega | (simp; done) | (simp; omega))))))), by simp, by (repeat (first | (with_reducible assumption) | ((with_reducible refine Blk.new' ?_); focus (simp; done)) | (with_reducible refine Blk.alloc ?_ _) | (with_reducible refine Blk.drew ?_) | (with_reducible refine Blk.drewN ?_ _) | ((with_reducible refine Blk.far ?_ ?_ _); rotate_left; focus (first | omega | (simp; done) | (simp; omega))) | (refine Blk.keep ?_ (by with_reducible assumption)) | (refine Blk.below ?_ (by with_reducible assumption) (by (first | omega | (simp; done) | (simp; omega)))))), by (repeat (first | (with_reducible assumption) | ((with_reducible refine Blk.new' ?_); focus (simp; done)) | (with_reducible refine Blk.alloc ?_ _) | (with_reducible refine Blk.drew ?_) | (with_reducible refine Blk.drewN ?_ _) | ((with_reducible refine Blk.far ?_ ?_ _); rotate_left; focus (first | omega | (simp; done) | (simp; omega))) | (refine Blk.keep ?_ (by with_reducible assumption)) | (refine Blk.below ?_ (by with_reducible assumption) (by (first | omega | (simp; done) | (simp; omega)))))), (by (repeat (first | (with_reducible assumption) | ((with_reducible refine Blk.new' ?_); focus (simp; done)) | (with_reducible refine Blk.alloc ?_ _) | (with_reducible refine Blk.drew ?_) | (with_reducible refine Blk.drewN ?_ _) | ((with_reducible refine Blk.far ?_ ?_ _); rotate_left; focus (first | omega | (simp; done) | (simp; omega))) | (refine Blk.keep ?_ (by with_reducible assumption)) | (refine Blk.below ?_ (by with_reducible assumption) (by (first | omega | (simp; done) | (simp; omega)))))) : Blk _ _ 26 #[.int .i64 now, .slice none 0 0]), World.ownsRow_nil _ _ _ _⟩
  case round =>
    obtain ⟨k, L, A1, c1, hk, hLk, hL, rfl, hb, hzr, hbk0, hbk1, hbk2, hown⟩ := hrel
    have hc0 := hbk0.cell
    have hc2 := hbk2.cell
    have hf2 := hbk2.frozen
    by_cases hlt : k < n
    · have hlx : k < ts.length := by rw [Hn.out]; exact hlt
      obtain ⟨b, off, rfl, hab, hc1⟩ := hr.elem Timer.len (by omega) hlx hb (Nat.le_refl _)
      have HT := Lib.hid (List.take_succ_eq_append_getElem hlx)
      generalize ts[k]'hlx = t at hc1 HT
      have hc10 := hc1 0 (by omega)
      have hc11 := hc1 1 (by omega)
      simp only [Timer.cells, List.getElem?_cons_zero, List.getElem?_cons_succ, Nat.add_zero] at hc10 hc11
      clear hc1
      by_cases hid : (t.Id == id) = true
      · have hW : without (ts.take (k + 1)) id = without (ts.take k) id := by rw [HT.out]; unfold without; rw [List.filter_append]; simp [hasId, hid]
        have HW := Lib.hid hW
        have hne : (t.Id != id) = false := by simp only [bne, hid]; rfl
        clear hW
        go_wp2
        go_roundw
        case rel => exact ⟨k + 1, L, A1, c1, by omega, by omega, Lib.hid (by rw [HW.out]; exact hL.out), by go_num, hb, hzr, hbk0, hbk1, hbk2, hown⟩
        case measure => simp [intOf]; omega
      · simp only [Bool.not_eq_true] at hid
        have hW : without (ts.take (k + 1)) id = without (ts.take k) id ++ [t] := by rw [HT.out]; unfold without; rw [List.filter_append]; simp [hasId, hid]
        have HW := Lib.hid hW
        have hne : (t.Id != id) = true := by simp only [bne, hid]; rfl
        clear hW
        go_wp2
        have hcA := (hbk2.alloc (.cells #[.int .i64 t.At, .int .i64 t.Id] 52)).cell
        go_region_law (refine step_append_lies _ (by rfl) _ _ _ (by rfl) (w.heap.size + 3) 52 i0 _ 2 16 Try.underlying24 hi0 hz0 hz1 hz2 rfl (by omega) (.slice A1 L.length c1) L.length _ (by rfl) ((hown.alloc _).drew) ⟨wr.heap.size, 0, none⟩ 1 1 [.int .i64 t.At, .int .i64 t.Id] (by rfl) (by rfl) (World.news_of_block (cs := #[.int .i64 t.At, .int .i64 t.Id]) (t := 52) (fr := (0, 0)) (heap_alloc_new wr _)) (by simp [Value.oneCell']) (by omega) (by simp only [maxLen]; omega) (by omega) (by simp; omega) (wr.heap.size + 1) (by simp) ?_; intro gg cap w1 hown1 hgrow hat hlt1; have BX := Blk.grown (hbk2.alloc (.cells #[.int .i64 t.At, .int .i64 t.Id] 52)).drew hgrow (fun e => by have := (hown.lt _ e.symm).1; omega); have hcX := BX.cell; have hfX := BX.frozen)
        all_goals
          go_wp2
          go_roundw
          case rel =>
            have hne : ∀ g, g < w.heap.size + 3 → some g ≠ (Value.slice A1 L.length c1).ownBlock := fun g hg e => by have := (hown.lt _ e.symm).1; omega
            refine ⟨k + 1, L ++ [t], some ⟨gg, 0, none⟩, cap, by omega, by simp; omega, Lib.hid (by rw [HW.out, hL.out]), by go_num, ?_, ?_, ?_, ?_, ?_, ?_⟩
            · exact (Below.grown (Below.drew (Below.alloc hb (by omega) (.cells #[.int .i64 t.At, .int .i64 t.Id] 52))) hgrow (by simp; omega) (fun g e => by have := (hown.lt _ e).1; omega)).setCell (by simp; try omega) _
            · have := hgrow.size
              simp at this ⊢
              omega
            · exact ((hbk0.alloc (.cells #[.int .i64 t.At, .int .i64 t.Id] 52)).drew.grown hgrow (hne _ (by omega))).far (by simp; omega) _
            · exact ((hbk1.alloc (.cells #[.int .i64 t.At, .int .i64 t.Id] 52)).drew.grown hgrow (hne _ (by omega))).far (by simp) _
            · have hB := BX.set_ 1 (.slice (some ⟨gg, 0, none⟩) (L.length + 1) cap)
              simpa using hB
            · rw [List.flatMap_append]
              exact own_setCell (by simpa [Timer.cells] using hown1) (by simp) _
          case measure => simp [intOf]; omega
    · obtain rfl : k = n := by omega
      have hc1 := hbk1.cell
      have hf1 := hbk1.frozen
      go_wp2
      have hL2 : Hid (L = without ts id) := Lib.hid (by rw [hL.out, List.take_of_length_le (by rw [Hn.out]; exact Nat.le_refl _)])
      refine bodyPost_ret (v := .agg #[.int .i64 now, .slice A1 L.length c1]) (by simp [results, Try.results44, go_sem, hc1]) rfl ⟨A1, c1, by rw [hL2.out], ?_, by (repeat (first | (with_reducible exact Below.refl _ _) | (with_reducible assumption) | ((with_reducible refine Below.setCell ?_ ?_ _); rotate_left; focus (first | omega | (simp; done) | (simp; omega))) | ((with_reducible refine Below.alloc ?_ ?_ _); rotate_left; focus (first | omega | (simp; done) | (simp; omega))) | (with_reducible refine Below.drew ?_) | (with_reducible refine below_drewN ?_ _) | (refine Below.trans ?_ (Below.mono (by with_reducible assumption) (by (first | omega | (simp; done) | (simp; omega)))))))⟩
      rw [← hL2.out]
      refine own_base (base := w.heap.size + 3) ?_ (by omega)
      (repeat (first | (with_reducible exact hown) | (refine own_base (by with_reducible exact hown) (by first | omega | (simp; done) | (simp; omega))) | ((with_reducible refine own_setCell ?_ ?_ _); rotate_left; focus (first | omega | (simp; done) | (simp; omega)))))
end Go.Proofs.Ythahnaigdoiddaa

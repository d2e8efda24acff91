/- Copies of tokens: slices.Clone of strings, l08Texts, cloneToken, l08CopyToken (the first two turned from the copies of bytes). -/
import Derived.Test.YtoijmnnjcoogkaaDoorTokRd
import Derived.Test.YtoijmnnjcoogkaaDoorAppend
set_option linter.unusedSimpArgs false
set_option linter.unusedVariables false
set_option maxRecDepth 20000
namespace Go.Proofs.YtoijmnnjcoogkaaDoor
open Go.RowKit
set_option maxHeartbeats 800000 in
theorem spec_l08Texts (A : Option Addr) (c : Nat) (xs : List ByteArray) (w : World) (hr : Reads w w.heap.size A (xs.map strV)) (hm : xs.length ≤ 1073741824) :
    Calls Tryd.prog 53 #[.slice A xs.length c] w fun e w' => ∃ A1 c1, e = .returned (.slice A1 xs.length c1) ∧ w'.ownsRow w.heap.size 9 1 (.slice A1 xs.length c1) xs.length (xs.map strV) ∧ Below w.heap.size w w' := by
  obtain ⟨i0, hi0, hI0, hI1, hI2⟩ := info_parts info_string
  generalize hn : xs.length = n at hm
  have Hn := Lib.hid hn
  clear hn
  go_enter Tryd.func53, Tryd.ntmps53
  go_wp2
  go_loopw [3, 4] (fun o i wr => ∃ (k : Nat) (A1 : Option Addr) (c1 : Nat), k ≤ n ∧ i = .int .i64 k ∧ o = .slice A1 k c1 ∧ wr.ownsRow w.heap.size 9 1 (.slice A1 k c1) k ((xs.take k).map strV) ∧ Below w.heap.size w wr ∧ w.heap.size ≤ wr.heap.size) (fun _ i _ => n - (intOf i).toNat)
  case atStart => exact ⟨0, some ⟨w.heap.size, 0, none⟩, 0, Nat.zero_le _, rfl, rfl, World.ownsRow_lit w #[] 0 (Nat.le_refl _) (by simp [maxLen]) rfl, by (repeat (first | (with_reducible exact Below.refl _ _) | (with_reducible assumption) | ((with_reducible refine Below.setCell ?_ ?_ _); rotate_left; focus (first | omega | (simp; done) | (simp; omega))) | ((with_reducible refine Below.alloc ?_ ?_ _); rotate_left; focus (first | omega | (simp; done) | (simp; omega))) | (with_reducible refine Below.drew ?_) | (with_reducible refine below_drewN ?_ _) | (refine Below.trans ?_ (Below.mono (by with_reducible assumption) (by (first | omega | (simp; done) | (simp; omega))))))), by simp⟩
  case round =>
    obtain ⟨k, A1, c1, hk, rfl, rfl, hown, hb, hzr⟩ := hrel
    by_cases hlt : k < n
    · have hlx : k < (xs.map strV).length := by simpa [Hn.out] using hlt
      obtain ⟨b, off, rfl, hab, hc1⟩ := hr.at_ hlx hb (Nat.le_refl _)
      obtain ⟨u, hu1, hu2, hu3⟩ := map_at strV xs k hlx
      rw [hu1] at hc1
      have HT := Lib.hid (take_snoc hu3)
      clear hu1 hu2 hu3
      simp only [strV] at hc1
      go_wp2_with (first | (at_builtin; go_loud (refine wpList_append_own_at _ rfl _ _ 46 rfl (w.heap.size) 9 i0 (.string ByteArray.empty) 1 16 Tryd.underlying46 hi0 hI0 hI1 hI2 rfl (by decide) _ _ _ rfl (hown.alloc _) ⟨(wr).heap.size, 0, none⟩ 1 1 [.string u] rfl rfl ?c1 ?c2 ?c3 ?c4 ?c5 ?_; (case c1 => exact cell_one_new _ _ _); (case c2 => simp [Value.oneCell']); (case c3 => (simp only [maxLen]; omega)); (case c4 => omega); (case c5 => (simp; omega)); intro v' wA hown1 hgrow hnil hat; obtain ⟨gg, cap, rfl, hg1, hg2⟩ := hown1.form (by omega))))
      go_roundw
      case rel =>
        have hsz := hgrow.size
        simp at hsz
        refine ⟨k + 1, some ⟨gg, 0, none⟩, cap, by omega, by go_num, by rfl, ?_, ?_, by omega⟩
        · rw [HT.out, List.map_append]; exact hown1
        · exact Below.grown (hb.alloc (by omega) _) hgrow (by simp; omega) (fun g e => (hown.lt _ e).1)
      case measure => simp [intOf]; omega
    · obtain rfl : k = n := by omega
      rw [List.take_of_length_le (by rw [Hn.out]; exact Nat.le_refl _)] at hown
      go_wp2
      go_ret
      exact ⟨_, _, rfl, hown, hb⟩
set_option maxHeartbeats 1600000 in
theorem spec_l08CopyToken (t : Token) (A : Option Addr) (c : Nat) (w : World) (hr : Reads w w.heap.size A (t.Names.map strV)) (hm : t.Names.length ≤ 1073741824) :
    Calls Tryd.prog 37 #[.agg #[.int .i64 t.Id, .int .i64 t.Parent, .slice A t.Names.length c, .int .i64 t.Made, .int .i64 t.Ends, .int .i64 t.Limit, .int .i64 t.Uses]] w fun e w' => ∃ D d, e = .returned (.agg #[.int .i64 t.Id, .int .i64 t.Parent, .slice D t.Names.length d, .int .i64 t.Made, .int .i64 t.Ends, .int .i64 t.Limit, .int .i64 t.Uses]) ∧ w'.ownsRow w.heap.size 9 1 (.slice D t.Names.length d) t.Names.length (t.Names.map strV) ∧ Below w.heap.size w w' := by
  go_enter Tryd.func37, Tryd.ntmps37
  go_wp2_with fail
  refine (spec_l08Texts A c t.Names _ (hr.keep (by (repeat (first | (with_reducible exact Below.refl _ _) | (with_reducible assumption) | ((with_reducible refine Below.setCell ?_ ?_ _); rotate_left; focus (first | omega | (simp; done) | (simp; omega))) | ((with_reducible refine Below.alloc ?_ ?_ _); rotate_left; focus (first | omega | (simp; done) | (simp; omega))) | (with_reducible refine Below.drew ?_) | (with_reducible refine below_drewN ?_ _) | (refine Below.trans ?_ (Below.mono (by with_reducible assumption) (by (first | omega | (simp; done) | (simp; omega)))))))) (by simp; omega)) hm).mono ?_
  rintro e w1 ⟨D, d, rfl, ho, hb1⟩
  have hz1 := hb1.size; try simp at hz1
  have BK0 : Blk w1 w.heap.size 48 #[.int .i64 t.Id, .int .i64 t.Parent, .slice A t.Names.length c, .int .i64 t.Made, .int .i64 t.Ends, .int .i64 t.Limit, .int .i64 t.Uses] := by (repeat (first | (with_reducible assumption) | ((with_reducible refine Blk.new' ?_); focus (simp; done)) | (with_reducible refine Blk.alloc ?_ _) | (with_reducible refine Blk.drew ?_) | (with_reducible refine Blk.drewN ?_ _) | ((with_reducible refine Blk.far ?_ ?_ _); rotate_left; focus (first | omega | (simp; done) | (simp; omega))) | (refine Blk.keep ?_ (by with_reducible assumption)) | (refine Blk.below ?_ (by with_reducible assumption) (by (first | omega | (simp; done) | (simp; omega))))))
  have BK1 : Blk w1 (w.heap.size + 1) 48 #[.int .i64 0, .int .i64 0, .slice none 0 0, .int .i64 0, .int .i64 0, .int .i64 0, .int .i64 0] := by (repeat (first | (with_reducible assumption) | ((with_reducible refine Blk.new' ?_); focus (simp; done)) | (with_reducible refine Blk.alloc ?_ _) | (with_reducible refine Blk.drew ?_) | (with_reducible refine Blk.drewN ?_ _) | ((with_reducible refine Blk.far ?_ ?_ _); rotate_left; focus (first | omega | (simp; done) | (simp; omega))) | (refine Blk.keep ?_ (by with_reducible assumption)) | (refine Blk.below ?_ (by with_reducible assumption) (by (first | omega | (simp; done) | (simp; omega))))))
  have hc0 := BK0.cell; have hf0 := BK0.frozen; have hl0 := BK0.lt; have hc1 := BK1.cell; have hf1 := BK1.frozen; have hl1 := BK1.lt
  go_wp2
  refine bodyPost_ret (v := .agg #[.int .i64 t.Id, .int .i64 t.Parent, .slice D t.Names.length d, .int .i64 t.Made, .int .i64 t.Ends, .int .i64 t.Limit, .int .i64 t.Uses]) (by simp [results, Tryd.results37, go_sem, hc0, hf0, hc1, hf1]) rfl ⟨D, d, rfl, ?_, by (repeat (first | (with_reducible exact Below.refl _ _) | (with_reducible assumption) | ((with_reducible refine Below.setCell ?_ ?_ _); rotate_left; focus (first | omega | (simp; done) | (simp; omega))) | ((with_reducible refine Below.alloc ?_ ?_ _); rotate_left; focus (first | omega | (simp; done) | (simp; omega))) | (with_reducible refine Below.drew ?_) | (with_reducible refine below_drewN ?_ _) | (refine Below.trans ?_ (Below.mono (by with_reducible assumption) (by (first | omega | (simp; done) | (simp; omega)))))))⟩
  refine own_base (base := w.heap.size + 2) ?_ (by omega)
  (repeat (first | (with_reducible exact ho) | (refine own_base (by with_reducible exact ho) (by first | omega | (simp; done) | (simp; omega))) | ((with_reducible refine own_setCell ?_ ?_ _); rotate_left; focus (first | omega | (simp; done) | (simp; omega)))))
end Go.Proofs.YtoijmnnjcoogkaaDoor

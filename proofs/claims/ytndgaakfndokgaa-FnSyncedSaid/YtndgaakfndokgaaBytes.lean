/- Copies of byte rows: l01Bytes, l01Join, slices.Clone, slices.Grow, slices.Concat. -/
import Derived.Test.YtndgaakfndokgaaByteS
import Derived.Test.YtndgaakfndokgaaAppend
set_option linter.unusedSimpArgs false
set_option linter.unusedVariables false
set_option maxRecDepth 20000
namespace Go.Proofs.Ytndgaakfndokgaa
open Go.RowKit
set_option maxHeartbeats 800000 in
theorem spec_l01Bytes (A : Option Addr) (c : Nat) (xs : List UInt8) (w : World) (hr : Reads w w.heap.size A (xs.map byteV)) (hm : xs.length ≤ 1073741824) :
    Calls Try.prog 46 #[.slice A xs.length c] w fun e w' => ∃ A1 c1, e = .returned (.slice A1 xs.length c1) ∧ w'.ownsRow w.heap.size 5 1 (.slice A1 xs.length c1) xs.length (xs.map byteV) ∧ Below w.heap.size w w' := by
  obtain ⟨i0, hi0, hI0, hI1, hI2⟩ := info_parts info_uint8
  generalize hn : xs.length = n at hm
  have Hn := Lib.hid hn
  clear hn
  go_enter Try.func46, Try.ntmps46
  go_wp2
  go_loopw [3, 4] (fun o i wr => ∃ (k : Nat) (A1 : Option Addr) (c1 : Nat), k ≤ n ∧ i = .int .i64 k ∧ o = .slice A1 k c1 ∧ wr.ownsRow w.heap.size 5 1 (.slice A1 k c1) k ((xs.take k).map byteV) ∧ Below w.heap.size w wr ∧ w.heap.size ≤ wr.heap.size) (fun _ i _ => n - (intOf i).toNat)
  case atStart => exact ⟨0, some ⟨w.heap.size, 0, none⟩, 0, Nat.zero_le _, rfl, rfl, World.ownsRow_lit w #[] 0 (Nat.le_refl _) (by simp [maxLen]) rfl, by (repeat (first | (with_reducible exact Below.refl _ _) | (with_reducible assumption) | ((with_reducible refine Below.setCell ?_ ?_ _); rotate_left; focus (first | omega | (simp; done) | (simp; omega))) | ((with_reducible refine Below.alloc ?_ ?_ _); rotate_left; focus (first | omega | (simp; done) | (simp; omega))) | (with_reducible refine Below.drew ?_) | (with_reducible refine below_drewN ?_ _) | (refine Below.trans ?_ (Below.mono (by with_reducible assumption) (by (first | omega | (simp; done) | (simp; omega))))))), by simp⟩
  case round =>
    obtain ⟨k, A1, c1, hk, rfl, rfl, hown, hb, hzr⟩ := hrel
    by_cases hlt : k < n
    · have hlx : k < (xs.map byteV).length := by simpa [Hn.out] using hlt
      obtain ⟨b, off, rfl, hab, hc1⟩ := hr.at_ hlx hb (Nat.le_refl _)
      obtain ⟨u, hu1, hu2, hu3⟩ := map_at byteV xs k hlx
      rw [hu1] at hc1
      have HT := Lib.hid (take_snoc hu3)
      clear hu1 hu2 hu3
      simp only [byteV] at hc1
      go_wp2_with (first | (at_builtin; go_loud (refine wpList_append_own_at _ rfl _ _ 22 rfl (w.heap.size) 5 i0 (.int .u8 0) 1 1 Try.underlying22 hi0 hI0 hI1 hI2 rfl (by decide) _ _ _ rfl (hown.alloc _) ⟨(wr).heap.size, 0, none⟩ 1 1 [.int .u8 u.toNat] rfl rfl ?c1 ?c2 ?c3 ?c4 ?c5 ?_; (case c1 => exact cell_one_new _ _ _); (case c2 => simp [Value.oneCell']); (case c3 => (simp only [maxLen]; omega)); (case c4 => omega); (case c5 => (simp; omega)); intro v' wA hown1 hgrow hnil hat; obtain ⟨gg, cap, rfl, hg1, hg2⟩ := hown1.form (by omega))))
      go_roundw
      case rel =>
        have hsz := hgrow.size
        simp at hsz
        refine ⟨k + 1, some ⟨gg, 0, none⟩, cap, by omega, by go_num, by rfl, ?_, ?_, by omega⟩
        · rw [HT.out, List.map_append]; exact hown1
        · exact Below.grown (hb.alloc (by omega) _) hgrow (by simp; omega) (fun g e => (hown.lt _ e).1)
      case measure => simp [intOf]; omega
    · obtain rfl : k = n := by omega
      rw [List.take_of_length_le (by rw [Hn.out]; exact Nat.le_refl _)] at hown
      go_wp2
      go_ret
      exact ⟨_, _, rfl, hown, hb⟩
set_option maxHeartbeats 800000 in
theorem spec_l01Join (A A' : Option Addr) (c c' : Nat) (xs ys : List UInt8) (w : World) (hr : Reads w w.heap.size A (xs.map byteV)) (hr' : Reads w w.heap.size A' (ys.map byteV)) (hm : xs.length ≤ 1073741824) (hm' : ys.length ≤ 1073741824) :
    Calls Try.prog 28 #[.slice A xs.length c, .slice A' ys.length c'] w fun e w' => ∃ A1 c1, e = .returned (.slice A1 (xs ++ ys).length c1) ∧ w'.ownsRow w.heap.size 5 1 (.slice A1 (xs ++ ys).length c1) (xs ++ ys).length ((xs ++ ys).map byteV) ∧ Below w.heap.size w w' := by
  obtain ⟨i0, hi0, hI0, hI1, hI2⟩ := info_parts info_uint8
  generalize hn : ys.length = n at hm'
  have Hn := Lib.hid hn
  clear hn
  go_enter Try.func28, Try.ntmps28
  go_wp2_with fail
  refine (spec_l01Bytes _ _ _ _ hr hm).mono ?_
  rintro e w1 ⟨A0, c0, rfl, ho1, hb1⟩
  have hz1 := hb1.size; try simp at hz1
  generalize hx : xs.length = m at hm ho1
  have Hx := Lib.hid hx
  clear hx
  go_wp2
  go_loopw [5, 6] (fun o i wr => ∃ (k : Nat) (A1 : Option Addr) (c1 : Nat), k ≤ n ∧ i = .int .i64 k ∧ o = .slice A1 (m + k) c1 ∧ wr.ownsRow w.heap.size 5 1 (.slice A1 (m + k) c1) (m + k) ((xs ++ ys.take k).map byteV) ∧ Below w.heap.size w wr ∧ w.heap.size ≤ wr.heap.size) (fun _ i _ => n - (intOf i).toNat)
  case atStart => exact ⟨0, A0, c0, Nat.zero_le _, rfl, rfl, by simpa using ho1, hb1, hz1⟩
  case round =>
    obtain ⟨k, A1, c1, hk, rfl, rfl, hown, hb, hzr⟩ := hrel
    by_cases hlt : k < n
    · have hlx : k < (ys.map byteV).length := by simpa [Hn.out] using hlt
      obtain ⟨b, off, rfl, hab, hc1⟩ := hr'.at_ hlx hb (Nat.le_refl _)
      obtain ⟨u, hu1, hu2, hu3⟩ := map_at byteV ys k hlx
      rw [hu1] at hc1
      have HT := Lib.hid (take_snoc hu3)
      clear hu1 hu2 hu3
      simp only [byteV] at hc1
      go_wp2_with (first | (at_builtin; go_loud (refine wpList_append_own_at _ rfl _ _ 22 rfl (w.heap.size) 5 i0 (.int .u8 0) 1 1 Try.underlying22 hi0 hI0 hI1 hI2 rfl (by decide) _ _ _ rfl (hown.alloc _) ⟨(wr).heap.size, 0, none⟩ 1 1 [.int .u8 u.toNat] rfl rfl ?c1 ?c2 ?c3 ?c4 ?c5 ?_; (case c1 => exact cell_one_new _ _ _); (case c2 => simp [Value.oneCell']); (case c3 => (simp only [maxLen]; omega)); (case c4 => omega); (case c5 => (simp; omega)); intro v' wA hown1 hgrow hnil hat; obtain ⟨gg, cap, rfl, hg1, hg2⟩ := hown1.form (by omega))))
      go_roundw
      case rel =>
        have hsz := hgrow.size
        simp at hsz
        refine ⟨k + 1, some ⟨gg, 0, none⟩, cap, by omega, by go_num, by rfl, ?_, ?_, by omega⟩
        · rw [HT.out, ← List.append_assoc, List.map_append]; exact hown1
        · exact Below.grown (hb.alloc (by omega) _) hgrow (by simp; omega) (fun g e => (hown.lt _ e).1)
      case measure => simp [intOf]; omega
    · obtain rfl : k = n := by omega
      rw [List.take_of_length_le (by rw [Hn.out]; exact Nat.le_refl _)] at hown
      go_wp2
      go_ret
      exact ⟨A1, c1, by rw [List.length_append, Hx.out, Hn.out]; rfl, by rw [List.length_append, Hx.out, Hn.out]; exact hown, hb⟩
set_option maxHeartbeats 800000 in
theorem slices_Clone_byte (A : Option Addr) (c : Nat) (xs : List UInt8) (w : World) (hr : Reads w w.heap.size A (xs.map byteV)) (hm : xs.length ≤ 1073741824) :
    Calls Try.prog 59 #[.slice A xs.length c] w fun e w' => ∃ A1 c1, e = .returned (.slice A1 xs.length c1) ∧ w'.ownsRow w.heap.size 5 1 (.slice A1 xs.length c1) xs.length (xs.map byteV) ∧ Below w.heap.size w w' := by
  obtain ⟨i0, hi0, hI0, hI1, hI2⟩ := info_parts info_uint8
  generalize hn : xs.length = n at hm
  have Hn := Lib.hid hn
  have hnil := fun w => Lib.run_eql_slice_nil (P := Try.prog) w 22 5 A n c 0 0 Try.underlying22
  cases A with
  | none =>
    have hx : xs = [] := by
      cases xs with
      | nil => rfl
      | cons x xs => obtain ⟨b, off, h, _⟩ := hr (by simp); cases h
    subst hx
    obtain rfl : n = 0 := hn.symm
    clear hn
    go_enter Try.func59, Try.ntmps59
    go_wp2
    go_ret
    exact ⟨none, 0, rfl, World.ownsRow_nil _ _ _ _, by (repeat (first | (with_reducible exact Below.refl _ _) | (with_reducible assumption) | ((with_reducible refine Below.setCell ?_ ?_ _); rotate_left; focus (first | omega | (simp; done) | (simp; omega))) | ((with_reducible refine Below.alloc ?_ ?_ _); rotate_left; focus (first | omega | (simp; done) | (simp; omega))) | (with_reducible refine Below.drew ?_) | (with_reducible refine below_drewN ?_ _) | (refine Below.trans ?_ (Below.mono (by with_reducible assumption) (by (first | omega | (simp; done) | (simp; omega)))))))⟩
  | some a =>
    clear hn
    have hown0 : World.ownsRow _ _ 5 1 _ _ _ := World.ownsRow_lit w #[] 0 (Nat.le_refl _) (by simp [maxLen]) rfl
    have H1 := Lib.hid (bytes_one xs)
    have hrA : Reads (w.alloc (.cells #[] 5)) w.heap.size (some a) (xs.map byteV) := hr.below (by (repeat (first | (with_reducible exact Below.refl _ _) | (with_reducible assumption) | ((with_reducible refine Below.setCell ?_ ?_ _); rotate_left; focus (first | omega | (simp; done) | (simp; omega))) | ((with_reducible refine Below.alloc ?_ ?_ _); rotate_left; focus (first | omega | (simp; done) | (simp; omega))) | (with_reducible refine Below.drew ?_) | (with_reducible refine below_drewN ?_ _) | (refine Below.trans ?_ (Below.mono (by with_reducible assumption) (by (first | omega | (simp; done) | (simp; omega)))))))) (Nat.le_refl _)
    go_enter Try.func59, Try.ntmps59
    go_wp2_with (first | (at_builtin; go_loud (refine wpList_append_reads rfl _ _ 22 rfl w.heap.size 5 i0 (.int .u8 0) 1 1 Try.underlying22 hi0 hI0 hI1 hI2 rfl (by decide) _ _ _ rfl hown0 w.heap.size (some a) n c (xs.map byteV) rfl ?c0 hrA H1.out ?c3 ?c4 ?c5 ?_; (case c0 => rw [List.length_map, Hn.out, Nat.mul_one]); (case c3 => (simp only [maxLen]; omega)); (case c4 => omega); (case c5 => (first | omega | (simp; done) | (simp; omega))); intro v' wA hown1 hgrow hat; obtain ⟨A1, c1, rfl⟩ := own_slice hown1)))
    go_ret
    refine ⟨A1, c1, by simp, by simpa using hown1, ?_⟩
    exact Below.grown ((Below.refl _ _).alloc (Nat.le_refl _) _) hgrow (by simp) (fun g e => (hown0.lt _ e).1)
/-- slices.Grow of the nil slice: nothing in a new row (or nil). -/
theorem slices_Grow_byte (n : Nat) (w : World) (hm : n ≤ 1073741824) :
    Calls Try.prog 60 #[.slice none 0 0, .int .i64 n] w fun e w' => ∃ A1 c1, e = .returned (.slice A1 0 c1) ∧ w'.ownsRow w.heap.size 5 1 (.slice A1 0 c1) 0 [] ∧ Below w.heap.size w w' := by
  obtain ⟨i0, hi0, hI0, hI1, hI2⟩ := info_parts info_uint8
  rcases Nat.eq_zero_or_pos n with rfl | h0
  · go_enter Try.func60, Try.ntmps60
    go_wp2
    go_ret
    exact ⟨none, 0, rfl, World.ownsRow_nil _ _ _ _, by (repeat (first | (with_reducible exact Below.refl _ _) | (with_reducible assumption) | ((with_reducible refine Below.setCell ?_ ?_ _); rotate_left; focus (first | omega | (simp; done) | (simp; omega))) | ((with_reducible refine Below.alloc ?_ ?_ _); rotate_left; focus (first | omega | (simp; done) | (simp; omega))) | (with_reducible refine Below.drew ?_) | (with_reducible refine below_drewN ?_ _) | (refine Below.trans ?_ (Below.mono (by with_reducible assumption) (by (first | omega | (simp; done) | (simp; omega)))))))⟩
  · have hold : (Builtin.firstCells i0.size 0 (.slice none 0 0)).run Try.prog w.drew = .ok (#[] : Array Value) w.drew := run_firstCells_none w.drew i0.size 0 0 0
    have hrz := Lib.run_append_grow_zeros (P := Try.prog) w 22 3 22 5 i0 (.int .u8 0) .i64 .i64 Try.underlying22 Try.underlying3 hi0 hI0 none 0 0 [] (by simpa using hold) n h0 (by omega) (by omega) (by omega) (by rw [hI2]; omega) (growslice_fits (by omega) (by rw [hI2]; omega))
    have hge := grownCap_ge w (0 + n) 0 5
    have hle := grownCap_le_maxLen w (0 + n) 0 5 (by unfold maxLen; omega)
    generalize hG : grownCap w (0 + n) 0 5 = G at *
    rw [Nat.zero_add] at hrz hge
    clear hold hG
    have hle2 : G ≤ 9223372036854775807 := by unfold maxLen at hle; omega
    have HL := Lib.hid hle
    clear hle
    go_enter Try.func60, Try.ntmps60
    go_wp2_with (at_builtin; go_loud (refine Lib.wpList_append_run _ rfl _ _ _ _ rfl _ _ rfl rfl _ _ hrz ?_))
    go_ret
    have hzs : ∀ k, (Builtin.zeroCells #[Value.int IntKind.u8 0] k).size = k := fun k => by simp [Builtin.zeroCells]
    refine ⟨some ⟨w.heap.size, 0, none⟩, G, rfl, ⟨rfl, .inr ⟨w.heap.size, G, _, rfl, Nat.le_refl _, heap_alloc_new w _, by omega, HL.out, by rw [Array.size_append, hzs, hzs]; omega, rfl⟩⟩, by (repeat (first | (with_reducible exact Below.refl _ _) | (with_reducible assumption) | ((with_reducible refine Below.setCell ?_ ?_ _); rotate_left; focus (first | omega | (simp; done) | (simp; omega))) | ((with_reducible refine Below.alloc ?_ ?_ _); rotate_left; focus (first | omega | (simp; done) | (simp; omega))) | (with_reducible refine Below.drew ?_) | (with_reducible refine below_drewN ?_ _) | (refine Below.trans ?_ (Below.mono (by with_reducible assumption) (by (first | omega | (simp; done) | (simp; omega)))))))⟩
/-- A slice of bytes as it lies, and what it reads as. -/
abbrev Piece := Option Addr × Nat × List UInt8
def Piece.val (r : Piece) : Value := .slice r.1 r.2.2.length r.2.1
def pieces (rs : List Piece) : List UInt8 := rs.flatMap fun r => r.2.2
theorem pieces_take {rs : List Piece} {k : Nat} {r : Piece} (h : rs[k]? = some r) : pieces (rs.take (k + 1)) = pieces (rs.take k) ++ r.2.2 := by rw [take_snoc h]; simp [pieces]
theorem pieces_le {rs : List Piece} (k : Nat) : (pieces (rs.take k)).length ≤ (pieces rs).length := by
  have h : pieces rs = pieces (rs.take k) ++ pieces (rs.drop k) := by unfold pieces; rw [← List.flatMap_append, List.take_append_drop]
  rw [h, List.length_append]
  omega
set_option maxHeartbeats 1600000 in
theorem slices_Concat_byte (A : Option Addr) (c : Nat) (rs : List Piece) (w : World) (hr : Reads w w.heap.size A (rs.map Piece.val)) (hrs : ∀ r ∈ rs, Reads w w.heap.size r.1 (r.2.2.map byteV)) (hk : rs.length ≤ 1000) (hm : (pieces rs).length ≤ 1073741824) :
    Calls Try.prog 44 #[.slice A rs.length c] w fun e w' => ∃ A1 c1, e = .returned (.slice A1 (pieces rs).length c1) ∧ w'.ownsRow w.heap.size 5 1 (.slice A1 (pieces rs).length c1) (pieces rs).length ((pieces rs).map byteV) ∧ Below w.heap.size w w' := by
  obtain ⟨i0, hi0, hI0, hI1, hI2⟩ := info_parts info_uint8
  generalize hn : rs.length = n at hk
  have Hn := Lib.hid hn
  clear hn
  generalize hp : (pieces rs).length = N at hm
  have Hp := Lib.hid hp
  clear hp
  go_enter Try.func44, Try.ntmps44
  go_wp2
  go_loop [3, 11] (fun s i => ∃ k : Nat, k ≤ n ∧ i = .int .i64 k ∧ s = .int .i64 ((pieces (rs.take k)).length : Nat)) (fun _ i => n - (intOf i).toNat)
  case atStart => exact ⟨0, Nat.zero_le _, rfl, by simp [pieces]⟩
  case round =>
    obtain ⟨k, hk, rfl, rfl⟩ := hrel
    have hle := pieces_le (rs := rs) k
    rw [Hp.out] at hle
    by_cases hlt : k < n
    · have hlx : k < rs.length := by rw [Hn.out]; exact hlt
      obtain ⟨b, off, rfl, hab, hc1⟩ := hr.at_ (by simpa using hlx) (Below.refl _ _) (Nat.le_refl _)
      rw [List.getElem_map] at hc1
      have HG := List.getElem?_eq_getElem hlx
      generalize rs[k]'hlx = r at hc1 HG
      have hle2 := pieces_le (rs := rs) (k + 1)
      have HT := pieces_take HG
      rw [HT, List.length_append, Hp.out] at hle2
      have HT2 := Lib.hid HT
      clear HT HG
      obtain ⟨a1, c1, ys⟩ := r
      simp only [Piece.val] at hc1 hle2
      go_wp2
      go_round
      case rel => exact ⟨k + 1, by omega, by go_num, by rw [HT2.out, List.length_append]; simp⟩
      case measure => simp [intOf]; omega
    · obtain rfl : k = n := by omega
      have ht : rs.take k = rs := List.take_of_length_le (by rw [Hn.out]; exact Nat.le_refl _)
      rw [ht, Hp.out]
      clear hle ht
      go_wp2_with fail
      refine (slices_Grow_byte _ _ hm).mono ?_
      rintro e w1 ⟨A0, c0, rfl, ho0, hb0⟩
      have hz0 := hb0.size; try simp at hz0
      clear hk
      go_wp2
      go_loopw [6, 27] (fun o i wr => ∃ (j : Nat) (A1 : Option Addr) (c1 : Nat), j ≤ k ∧ i = .int .i64 j ∧ o = .slice A1 (pieces (rs.take j)).length c1 ∧ wr.ownsRow w.heap.size 5 1 (.slice A1 (pieces (rs.take j)).length c1) (pieces (rs.take j)).length ((pieces (rs.take j)).map byteV) ∧ Below w.heap.size w wr ∧ w.heap.size ≤ wr.heap.size) (fun _ i _ => k - (intOf i).toNat)
      case atStart => exact ⟨0, A0, c0, Nat.zero_le _, rfl, by simp [pieces], by simpa [pieces] using ho0, hb0, hz0⟩
      case round =>
        obtain ⟨j, A1, c1, hj, rfl, rfl, hown, hb, hzr⟩ := hrel
        have hle := pieces_le (rs := rs) j
        rw [Hp.out] at hle
        by_cases hlt : j < k
        · have hlx : j < rs.length := by rw [Hn.out]; exact hlt
          obtain ⟨b, off, rfl, hab, hc1⟩ := hr.at_ (by simpa using hlx) hb (Nat.le_refl _)
          rw [List.getElem_map] at hc1
          have HG := List.getElem?_eq_getElem hlx
          have hrj := hrs _ (List.getElem_mem hlx)
          generalize rs[j]'hlx = r at hc1 HG hrj
          have hle2 := pieces_le (rs := rs) (j + 1)
          have HT := pieces_take HG
          rw [HT, List.length_append, Hp.out] at hle2
          have HT2 := Lib.hid HT
          clear HT HG
          obtain ⟨a1, d1, ys⟩ := r
          simp only [Piece.val] at hc1 hle2 hrj
          generalize hP : pieces (rs.take j) = P at *
          have HP := Lib.hid hP
          clear hP
          have hrA := hrj.below hb (Nat.le_refl _)
          have H1 := Lib.hid (bytes_one ys)
          generalize hy : ys.length = y at *
          have Hy := Lib.hid hy
          generalize hPl : P.length = p at *
          have HPl := Lib.hid hPl
          clear hy hPl
          go_wp2_with (first | (at_builtin; go_loud (refine wpList_append_reads rfl _ _ 22 rfl w.heap.size 5 i0 (.int .u8 0) 1 1 Try.underlying22 hi0 hI0 hI1 hI2 rfl (by decide) _ _ _ rfl hown w.heap.size a1 y d1 (ys.map byteV) rfl ?c0 hrA H1.out ?c3 ?c4 ?c5 ?_; (case c0 => rw [List.length_map, Hy.out, Nat.mul_one]); (case c3 => (simp only [maxLen]; omega)); (case c4 => omega); (case c5 => (first | omega | (simp; done) | (simp; omega))); intro v' wA hown1 hgrow hat; obtain ⟨A2, c2, rfl⟩ := own_slice hown1)))
          go_roundw
          case rel =>
            have hsz := hgrow.size
            refine ⟨j + 1, A2, c2, by omega, by go_num, by rw [HT2.out, List.length_append, HPl.out, Hy.out], ?_, ?_, by omega⟩
            · rw [HT2.out, List.length_append, HPl.out, Hy.out, List.map_append]; exact hown1
            · exact Below.grown hb hgrow (by omega) (fun g e => (hown.lt _ e).1)
          case measure => simp [intOf]; omega
        · obtain rfl : j = k := by omega
          have ht : rs.take j = rs := List.take_of_length_le (by rw [Hn.out]; exact Nat.le_refl _)
          rw [ht, Hp.out] at hown
          have HT := Lib.hid ht
          clear ht
          go_wp2
          go_ret
          exact ⟨A1, c1, by rw [HT.out, Hp.out]; rfl, hown, hb⟩
end Go.Proofs.Ytndgaakfndokgaa

/- Drawn leases. -/
import Derived.Test.YtohfnpohmieknaaDoorCur
import Derived.Test.YtohfnpohmieknaaDoorRdInL
import Derived.Test.YtohfnpohmieknaaDoorLeaseS2
set_option linter.unusedSimpArgs false
set_option linter.unusedVariables false
set_option maxRecDepth 20000
namespace Go.Proofs.YtohfnpohmieknaaDoor
open Go.RowKit
variable {B : Nat}
theorem Out.join {S T : Nat → Prop} {a b c : World} (h : Out S a b) (k : Out T b c) (hT : ∀ q, T q → S q ∨ a.heap.size ≤ q) : Out S a c :=
  ⟨k.os.trans h.os, k.tape.trans h.tape, k.output.trans h.output, Nat.le_trans h.size k.size, fun q hq hs => (k.block q (Nat.lt_of_lt_of_le hq h.size) (fun ht => by rcases hT q ht with h1 | h1; exact hs h1; omega)).trans (h.block q hq hs)⟩
set_option maxHeartbeats 1600000 in
/-- One of a list that is not empty. -/
theorem spec_pickText (g : Nat) (w : World) (cs : List ByteArray) (hc : Cur B w g) (h0 : 0 < cs.length) (hl : cs.length ≤ 1000) :
    Calls Tryd.prog 34 #[.pointer (some ⟨g, 0, none⟩), .slice (some ⟨w.heap.size, 0, none⟩) cs.length cs.length] (w.alloc (.cells (cs.map strV).toArray 9)) fun e w' => ∃ x : ByteArray, e = .returned (.string x) ∧ x ∈ cs ∧ Cur B w' g ∧ Out (fun q => q = g) w w' ∧ w.heap.size + 1 ≤ w'.heap.size := by
  have hb : Below w.heap.size w (w.alloc (.cells (cs.map strV).toArray 9)) := by (repeat (first | (with_reducible exact Below.refl _ _) | (with_reducible assumption) | ((with_reducible refine Below.setCell ?_ ?_ _); rotate_left; focus (first | omega | (simp; done) | (simp; omega))) | ((with_reducible refine Below.alloc ?_ ?_ _); rotate_left; focus (first | omega | (simp; done) | (simp; omega))) | (with_reducible refine Below.drew ?_) | (with_reducible refine below_drewN ?_ _) | (refine Below.trans ?_ (Below.mono (by with_reducible assumption) (by (first | omega | (simp; done) | (simp; omega)))))))
  have hgl := hc.lt
  have hB : Blk (w.alloc (.cells (cs.map strV).toArray 9)) w.heap.size 9 (cs.map strV).toArray := Blk.new' rfl
  have hcb := hc.below hb
  have hsz : w.heap.size + 1 = (w.alloc (.cells (cs.map strV).toArray 9)).heap.size := by simp
  obtain ⟨b, hbe⟩ : ∃ b, b = w.heap.size := ⟨_, rfl⟩
  have hgb : g < b := by omega
  rw [← hbe] at hB hsz ⊢
  clear hbe
  have hOb := Out.of_below (S := fun q => q = g) hb
  generalize (w.alloc (.cells (cs.map strV).toArray 9)) = wa at *
  go_enter Tryd.func34, Tryd.ntmps34
  go_wp2_with fail
  refine (spec_l01Below g cs.length _ hcb (by omega)).mono ?_
  rintro e w1 ⟨x, rfl, hx0, hx1, hx2, hd1⟩
  have hx := hx1 (by omega)
  obtain ⟨k, rfl⟩ : ∃ k : Nat, x = k := ⟨x.toNat, by omega⟩
  have hk : k < cs.length := by omega
  have hB1 := hB.out hd1.2 (by omega)
  have hcx := hB1.cell k
  rw [show ((cs.map strV).toArray)[k]? = some (strV (cs[k]'hk)) by simp [hk]] at hcx
  have hmem := List.getElem_mem hk
  generalize cs[k]'hk = v at *
  simp only [strV] at hcx
  have hz1 := hd1.size
  go_wp2
  go_ret
  exact ⟨v, rfl, hmem, hd1.1, hOb.trans hd1.2, by omega⟩
set_option maxHeartbeats 1600000 in
theorem spec_l01DrawSegment (g : Nat) (w : World) (hc : Cur B w g) :
    Calls Tryd.prog 39 #[.pointer (some ⟨g, 0, none⟩)] w fun e w' => ∃ s : ByteArray, e = .returned (.string s) ∧ s.size ≤ 17 ∧ Cur B w' g ∧ Out (fun q => q = g) w w' := by
  go_enter Tryd.func39, Tryd.ntmps39
  go_wp2_with fail
  refine (spec_l01Once g 25 _ hc (by omega)).mono ?_
  rintro e w1 ⟨b, rfl, hd1⟩
  cases b
  · go_wp2_with fail
    refine (spec_pickText g w1 [⟨#[97]⟩, ⟨#[98]⟩, ⟨#[99]⟩, ⟨#[107, 118]⟩, ⟨#[100, 98]⟩, ⟨#[120, 45, 49]⟩, ⟨#[57]⟩] hd1.1 (by simp) (by simp)).mono ?_
    rintro e w2 ⟨s, rfl, hs, hc2, hO2, -⟩
    have hs5 : s.size ≤ 17 := by
      simp only [List.mem_cons, List.not_mem_nil, or_false] at hs
      rcases hs with rfl | rfl | rfl | rfl | rfl | rfl | rfl <;> decide
    clear hs
    go_wp2
    go_ret
    exact ⟨s, rfl, hs5, hc2, hd1.2.trans hO2⟩
  · go_wp2_with fail
    refine (spec_pickText g w1 [⟨#[]⟩, ⟨#[65]⟩, ⟨#[97, 47, 98]⟩, ⟨#[97, 98, 99, 100, 101, 102, 103, 104, 105, 106, 107, 108, 109, 110, 111, 112]⟩, ⟨#[97, 98, 99, 100, 101, 102, 103, 104, 105, 106, 107, 108, 109, 110, 111, 112, 113]⟩, ⟨#[45]⟩, ⟨#[97, 32, 98]⟩, ⟨#[43, 97]⟩, ⟨#[42, 42]⟩] hd1.1 (by simp) (by simp)).mono ?_
    rintro e w2 ⟨s, rfl, hs, hc2, hO2, -⟩
    have hs5 : s.size ≤ 17 := by
      simp only [List.mem_cons, List.not_mem_nil, or_false] at hs
      rcases hs with rfl | rfl | rfl | rfl | rfl | rfl | rfl | rfl | rfl <;> decide
    clear hs
    go_wp2
    go_ret
    exact ⟨s, rfl, hs5, hc2, hd1.2.trans hO2⟩
set_option maxHeartbeats 3200000 in
theorem spec_l01DrawPath (g : Nat) (w : World) (hc : Cur B w g) :
    Calls Tryd.prog 35 #[.pointer (some ⟨g, 0, none⟩)] w fun e w' => ∃ s : ByteArray, e = .returned (.string s) ∧ s.size ≤ 200 ∧ Cur B w' g ∧ Out (fun q => q = g) w w' := by
  go_enter Tryd.func35, Tryd.ntmps35
  go_wp2_with fail
  refine (spec_l01DrawSegment g w hc).mono ?_
  rintro e w1 ⟨s0, rfl, hs0, hc1, hO1⟩
  go_wp2_with fail
  refine (spec_l01Below g 4 _ hc1 (by omega)).mono ?_
  rintro e w2 ⟨x, rfl, hx0, hx1, -, hd2⟩
  have hx := hx1 (by omega)
  go_wp2_with fail
  refine (spec_l01Once g 20 _ hd2.1 (by omega)).mono ?_
  rintro e w3 ⟨b, rfl, hd3⟩
  have hO3 := (hO1.trans hd2.2).trans hd3.2
  have hc3 := hd3.1
  clear hd2 hd3 hO1 hc1 hx1
  go_upto_if 11 with fail
  go_cut [4] (fun s4 wx => ∃ n : Nat, s4 = .int .i64 n ∧ n ≤ 8 ∧ Cur B wx g ∧ Out (fun q => q = g) w wx)
  case first =>
    cases b
    · go_wp2_with fail
      go_meet
      exact ⟨x.toNat, by rw [Int.toNat_of_nonneg hx0], by omega, hc3, hO3⟩
    · go_wp2_with fail
      refine (spec_l01Below g 2 _ hc3 (by omega)).mono ?_
      rintro e w4 ⟨y, rfl, hy0, hy1, -, hd4⟩
      have hy := hy1 (by omega)
      have hw : IntKind.i64.wrap (7 + y) = 7 + y := IntWalk.i64_in _ (by omega)
      go_wp2_with fail
      go_meet
      exact ⟨(7 + y).toNat, by rw [Int.toNat_of_nonneg (by omega)], by omega, hd4.1, hO3.trans hd4.2⟩
  case rest =>
  obtain ⟨n, rfl, hn, hc4, hO4⟩ := hcut
  obtain ⟨w4, hw4_⟩ : ∃ w_, w_ = wc := ⟨_, rfl⟩
  subst hw4_
  clear hc3 hO3
  go_wp2_with fail
  go_loopw [3, 5] (fun s i wr => ∃ (k : Nat) (u : ByteArray), k ≤ n ∧ s = .string u ∧ i = .int .i64 k ∧ u.size ≤ 17 + 18 * k ∧ Cur B wr g ∧ Out (fun q => q = g) w wr) (fun _ i _ => n - (intOf i).toNat)
  case atStart => exact ⟨0, s0, Nat.zero_le _, rfl, rfl, by omega, hc4, hO4⟩
  case round =>
    clear hc4 hO4 hs0
    obtain ⟨k, u, hk, rfl, rfl, hu, hcr, hOr⟩ := hrel
    by_cases hlt : k < n
    · have hltI : (k : Int) < (n : Int) := by omega
      go_wp2_with fail
      refine (spec_l01DrawSegment g wr hcr).mono ?_
      rintro e w5 ⟨s, rfl, hs, hc5, hO5⟩
      go_wp2_with fail
      go_roundw
      case rel => exact ⟨k + 1, _, by omega, rfl, by go_num, by simp only [ByteArray.size_append]; have : (⟨#[47]⟩ : ByteArray).size = 1 := rfl; omega, hc5, hOr.trans hO5⟩
      case measure => simp [intOf]; omega
    · obtain rfl : k = n := by omega
      go_wp2
      go_ret
      exact ⟨u, rfl, by omega, hcr, hOr⟩
/-- The lease under way. -/
structure LS (B g b4 b5 : Nat) (w0 w : World) (l : Lease) : Prop where
  z : Blk w b4 32 #[.int .i64 0, .int .i64 0, .string ⟨#[]⟩, .int .i64 0, .int .i64 0, .int .i64 0]
  b : Blk w b5 32 #[.int .i64 l.Id, .int .i64 l.Token, .string l.Path, .int .i64 l.Made, .int .i64 l.Ends, .int .i64 l.Limit]
  cur : Cur B w g
  out : Out (fun q => q = g) w0 w
theorem LS.move {g b4 b5 : Nat} {w0 w w' : World} {l : Lease} (h : LS B g b4 b5 w0 w l) (ho : Out (fun q => q = g) w w') (hc : Cur B w' g) (h4 : g ≠ b4) (h5 : g ≠ b5) : LS B g b4 b5 w0 w' l := ⟨h.z.out ho (fun e => h4 e.symm), h.b.out ho (fun e => h5 e.symm), hc, h.out.trans ho⟩
theorem LS.store {g b4 b5 i : Nat} {w0 w : World} {l l' : Lease} {u : Value} (h : LS B g b4 b5 w0 w l) (h5 : g ≠ b5) (h45 : b4 ≠ b5) (hB : B ≤ b5) (h0 : w0.heap.size ≤ b5) (e : (#[.int .i64 l.Id, .int .i64 l.Token, .string l.Path, .int .i64 l.Made, .int .i64 l.Ends, .int .i64 l.Limit] : Array Value).setIfInBounds i u = #[.int .i64 l'.Id, .int .i64 l'.Token, .string l'.Path, .int .i64 l'.Made, .int .i64 l'.Ends, .int .i64 l'.Limit]) : LS B g b4 b5 w0 (w.setCell ⟨b5, i, none⟩ u) l' :=
  ⟨h.z.far (by simpa using h45) _, e ▸ h.b.set_ i u, h.cur.out (out_set _ _ _ _) (fun q hq => by subst hq; exact ⟨fun e => h5 e.symm, hB⟩), h.out.newer (by simpa using h0) _⟩
def LB (l : Lease) : Prop := l.Path.size ≤ 200 ∧ (-5 ≤ l.Made ∧ l.Made ≤ 2000) ∧ (-5 ≤ l.Ends ∧ l.Ends ≤ 2000) ∧ (-5 ≤ l.Limit ∧ l.Limit ≤ 2000)
set_option maxHeartbeats 6400000 in
theorem spec_l09DrawLease (g : Nat) (id : Int) (w : World) (hc : Cur B w g) :
    Calls Tryd.prog 28 #[.pointer (some ⟨g, 0, none⟩), .int .i64 id] w fun e w' => ∃ l : Lease, e = .returned (.agg #[.int .i64 l.Id, .int .i64 l.Token, .string l.Path, .int .i64 l.Made, .int .i64 l.Ends, .int .i64 l.Limit]) ∧ LB l ∧ Cur B w' g ∧ Out (fun q => q = g) w w' := by
  have hgl := hc.lt
  have hBg := hc.le
  have hbA : Below w.heap.size w (w.alloc (.cells #[.int .i64 0, .int .i64 0, .string ⟨#[]⟩, .int .i64 0, .int .i64 0, .int .i64 0] 32)) := by (repeat (first | (with_reducible exact Below.refl _ _) | (with_reducible assumption) | ((with_reducible refine Below.setCell ?_ ?_ _); rotate_left; focus (first | omega | (simp; done) | (simp; omega))) | ((with_reducible refine Below.alloc ?_ ?_ _); rotate_left; focus (first | omega | (simp; done) | (simp; omega))) | (with_reducible refine Below.drew ?_) | (with_reducible refine below_drewN ?_ _) | (refine Below.trans ?_ (Below.mono (by with_reducible assumption) (by (first | omega | (simp; done) | (simp; omega)))))))
  have B4 : Blk (w.alloc (.cells #[.int .i64 0, .int .i64 0, .string ⟨#[]⟩, .int .i64 0, .int .i64 0, .int .i64 0] 32)) w.heap.size 32 #[.int .i64 0, .int .i64 0, .string ⟨#[]⟩, .int .i64 0, .int .i64 0, .int .i64 0] := Blk.new' rfl
  have hcA := hc.below hbA
  have hsA : Hid (w.heap.size + 1 = (w.alloc (.cells #[.int .i64 0, .int .i64 0, .string ⟨#[]⟩, .int .i64 0, .int .i64 0, .int .i64 0] 32)).heap.size) := Lib.hid (by simp)
  have hOA := Out.of_below (S := fun q => q = g) hbA
  go_enter Tryd.func28, Tryd.ntmps28
  go_wp2_with fail
  generalize (w.alloc (.cells #[.int .i64 0, .int .i64 0, .string ⟨#[]⟩, .int .i64 0, .int .i64 0, .int .i64 0] 32)) = wa at *
  have hs0 := hsA.out
  refine (spec_l01Below g 9 _ hcA (by omega)).mono ?_
  rintro e w1 ⟨tk, rfl, htk0, htk1, -, hd1⟩
  have htk := htk1 (by omega)
  have hz1 := hd1.size
  go_wp2_with fail
  refine (spec_pickText g w1 [⟨#[97]⟩, ⟨#[97, 47, 98]⟩, ⟨#[97, 47, 98, 47, 99]⟩, ⟨#[100, 98, 47, 120, 45, 49]⟩, ⟨#[107, 118, 47, 57]⟩, ⟨#[100, 98]⟩] hd1.1 (by simp) (by simp)).mono ?_
  rintro e w2 ⟨s, rfl, hs, hc2, hO2, hz2⟩
  have hs5 : s.size ≤ 200 := by
    simp only [List.mem_cons, List.not_mem_nil, or_false] at hs
    rcases hs with rfl | rfl | rfl | rfl | rfl | rfl <;> decide
  clear hs
  go_wp2_with fail
  refine (spec_l01Below g 40 _ hc2 (by omega)).mono ?_
  rintro e w3 ⟨md, rfl, hmd0, hmd1, -, hd3⟩
  have hmd := hmd1 (by omega)
  have hz3 := hd3.size
  have hO3 := (hd1.2.trans hO2).trans hd3.2
  have B43 := B4.out hO3 (by omega)
  have hb5 : Below w3.heap.size w3 (w3.alloc (.cells #[.int .i64 id, .int .i64 tk, .string s, .int .i64 md, .int .i64 0, .int .i64 0] 32)) := by (repeat (first | (with_reducible exact Below.refl _ _) | (with_reducible assumption) | ((with_reducible refine Below.setCell ?_ ?_ _); rotate_left; focus (first | omega | (simp; done) | (simp; omega))) | ((with_reducible refine Below.alloc ?_ ?_ _); rotate_left; focus (first | omega | (simp; done) | (simp; omega))) | (with_reducible refine Below.drew ?_) | (with_reducible refine below_drewN ?_ _) | (refine Below.trans ?_ (Below.mono (by with_reducible assumption) (by (first | omega | (simp; done) | (simp; omega)))))))
  have hR : LS B g w.heap.size w3.heap.size w (w3.alloc (.cells #[.int .i64 id, .int .i64 tk, .string s, .int .i64 md, .int .i64 0, .int .i64 0] 32)) ⟨id, tk, s, md, 0, 0⟩ := ⟨B43.keep hb5, Blk.new' rfl, hd3.1.below hb5, (hOA.trans hO3).trans (Out.of_below hb5)⟩
  go_upto_region 2 with fail
  generalize (w3.alloc (.cells #[.int .i64 id, .int .i64 tk, .string s, .int .i64 md, .int .i64 0, .int .i64 0] 32)) = w5 at *
  obtain ⟨b5, hb5e⟩ : ∃ b, b = w3.heap.size := ⟨_, rfl⟩
  obtain ⟨b4, hb4e⟩ : ∃ b, b = w.heap.size := ⟨_, rfl⟩
  rw [← hb5e, ← hb4e] at hR
  rw [← hb5e, ← hb4e]
  have h4 : g ≠ b4 := by omega
  have h5 : g ≠ b5 := by omega
  have h45 : b4 ≠ b5 := by omega
  have hB5 : B ≤ b5 := by omega
  have h05 : w.heap.size ≤ b5 := by omega
  have hB4 : B ≤ b4 := by omega
  have h04 : w.heap.size ≤ b4 := by omega
  clear B4 B43 hb5 hb5e hb4e hsA hs0 hbA hcA hd1 hO2 hc2 hd3 hO3 hOA hz1 hz2 hz3
  have hw1 : IntKind.i64.wrap (md + 1) = md + 1 := IntWalk.i64_in _ (by omega)
  have hcB := hR.b.cell; have hfB := hR.b.frozen; have hlB := hR.b.lt
  go_wp2_with fail
  go_cut [] (fun wx => ∃ y : Int, 0 ≤ y ∧ y < 60 ∧ LS B g b4 b5 w wx ⟨id, tk, s, md, md + 1 + y, 0⟩)
  case first =>
    go_region_law (go_simp; go_at_call 10; refine (spec_l01Below g 60 _ (hR.cur.below (by (repeat (first | (with_reducible exact Below.refl _ _) | (with_reducible assumption) | ((with_reducible refine Below.setCell ?_ ?_ _); rotate_left; focus (first | omega | (simp; done) | (simp; omega))) | ((with_reducible refine Below.alloc ?_ ?_ _); rotate_left; focus (first | omega | (simp; done) | (simp; omega))) | (with_reducible refine Below.drew ?_) | (with_reducible refine below_drewN ?_ _) | (refine Below.trans ?_ (Below.mono (by with_reducible assumption) (by (first | omega | (simp; done) | (simp; omega))))))))) (by omega)).mono ?_; rintro e wA ⟨y, rfl, hy0, hy1, -, hdA⟩; have hy := hy1 (by omega); have hOg : Out (fun q => q = g) w5 wA := (Out.trans (Out.of_below (by (repeat (first | (with_reducible exact Below.refl _ _) | (with_reducible assumption) | ((with_reducible refine Below.setCell ?_ ?_ _); rotate_left; focus (first | omega | (simp; done) | (simp; omega))) | ((with_reducible refine Below.alloc ?_ ?_ _); rotate_left; focus (first | omega | (simp; done) | (simp; omega))) | (with_reducible refine Below.drew ?_) | (with_reducible refine below_drewN ?_ _) | (refine Below.trans ?_ (Below.mono (by with_reducible assumption) (by (first | omega | (simp; done) | (simp; omega))))))))) hdA.2); have RA := hR.move hOg hdA.1 h4 h5; have hcA := RA.b.cell; have hfA := RA.b.frozen; have hwy : IntKind.i64.wrap (md + 1 + y) = md + 1 + y := IntWalk.i64_in _ (by omega))
    all_goals
      go_wp2_with fail
      go_meet
      exact ⟨y, hy0, hy, RA.store h5 h45 hB5 h05 rfl⟩
  case rest =>
  clear hcB hfB hlB hR hw1
  obtain ⟨y2, hy20, hy21, hR⟩ := hcut
  obtain ⟨w7, hw7_⟩ : ∃ w_, w_ = wc := ⟨_, rfl⟩
  subst hw7_
  have hcB := hR.b.cell; have hfB := hR.b.frozen; have hlB := hR.b.lt
  go_wp2_with fail
  go_cut [] (fun wx => ∃ y : Int, 0 ≤ y ∧ y < 60 ∧ LS B g b4 b5 w wx ⟨id, tk, s, md, md + 1 + y2, md + 1 + y2 + y⟩)
  case first =>
    go_region_law (go_simp; go_at_call 10; refine (spec_l01Below g 60 _ (hR.cur.below (by (repeat (first | (with_reducible exact Below.refl _ _) | (with_reducible assumption) | ((with_reducible refine Below.setCell ?_ ?_ _); rotate_left; focus (first | omega | (simp; done) | (simp; omega))) | ((with_reducible refine Below.alloc ?_ ?_ _); rotate_left; focus (first | omega | (simp; done) | (simp; omega))) | (with_reducible refine Below.drew ?_) | (with_reducible refine below_drewN ?_ _) | (refine Below.trans ?_ (Below.mono (by with_reducible assumption) (by (first | omega | (simp; done) | (simp; omega))))))))) (by omega)).mono ?_; rintro e wA ⟨y, rfl, hy0, hy1, -, hdA⟩; have hy := hy1 (by omega); have hOg : Out (fun q => q = g) w7 wA := (Out.trans (Out.of_below (by (repeat (first | (with_reducible exact Below.refl _ _) | (with_reducible assumption) | ((with_reducible refine Below.setCell ?_ ?_ _); rotate_left; focus (first | omega | (simp; done) | (simp; omega))) | ((with_reducible refine Below.alloc ?_ ?_ _); rotate_left; focus (first | omega | (simp; done) | (simp; omega))) | (with_reducible refine Below.drew ?_) | (with_reducible refine below_drewN ?_ _) | (refine Below.trans ?_ (Below.mono (by with_reducible assumption) (by (first | omega | (simp; done) | (simp; omega))))))))) hdA.2); have RA := hR.move hOg hdA.1 h4 h5; have hcA := RA.b.cell; have hfA := RA.b.frozen; have hwy : IntKind.i64.wrap (md + 1 + y2 + y) = md + 1 + y2 + y := IntWalk.i64_in _ (by omega))
    all_goals
      go_wp2_with fail
      go_meet
      exact ⟨y, hy0, hy, RA.store h5 h45 hB5 h05 rfl⟩
  case rest =>
  clear hcB hfB hlB hR
  obtain ⟨y3, hy30, hy31, hR⟩ := hcut
  obtain ⟨wz, hwz_⟩ : ∃ w_, w_ = wc := ⟨_, rfl⟩
  subst hwz_
  have hlb : LB ⟨id, tk, s, md, md + 1 + y2, md + 1 + y2 + y3⟩ := ⟨hs5, ⟨by dsimp only; omega, by dsimp only; omega⟩, ⟨by dsimp only; omega, by dsimp only; omega⟩, ⟨by dsimp only; omega, by dsimp only; omega⟩⟩
  generalize (⟨id, tk, s, md, md + 1 + y2, md + 1 + y2 + y3⟩ : Lease) = l at *
  have hcB := hR.b.cell; have hcZ := hR.z.cell; have hfZ := hR.z.frozen; have hlZ := hR.z.lt
  go_wp2_with fail
  have hO6 : Out (fun q => q = b4) wz (World.setCell (World.setCell (World.setCell (World.setCell (World.setCell (World.setCell wz ⟨b4, 0, none⟩ (.int .i64 l.Id)) ⟨b4, 1, none⟩ (.int .i64 l.Token)) ⟨b4, 2, none⟩ (.string l.Path)) ⟨b4, 3, none⟩ (.int .i64 l.Made)) ⟨b4, 4, none⟩ (.int .i64 l.Ends)) ⟨b4, 5, none⟩ (.int .i64 l.Limit)) := (Out.trans (Out.trans (Out.trans (Out.trans (Out.trans (out_set _ _ _ _) (out_set _ _ _ _)) (out_set _ _ _ _)) (out_set _ _ _ _)) (out_set _ _ _ _)) (out_set _ _ _ _))
  have Y4 : Blk (World.setCell (World.setCell (World.setCell (World.setCell (World.setCell (World.setCell wz ⟨b4, 0, none⟩ (.int .i64 l.Id)) ⟨b4, 1, none⟩ (.int .i64 l.Token)) ⟨b4, 2, none⟩ (.string l.Path)) ⟨b4, 3, none⟩ (.int .i64 l.Made)) ⟨b4, 4, none⟩ (.int .i64 l.Ends)) ⟨b4, 5, none⟩ (.int .i64 l.Limit)) b4 32 #[.int .i64 l.Id, .int .i64 l.Token, .string l.Path, .int .i64 l.Made, .int .i64 l.Ends, .int .i64 l.Limit] := (Blk.set_ (Blk.set_ (Blk.set_ (Blk.set_ (Blk.set_ (Blk.set_ hR.z 0 _) 1 _) 2 _) 3 _) 4 _) 5 _)
  have hcz : Cur B (World.setCell (World.setCell (World.setCell (World.setCell (World.setCell (World.setCell wz ⟨b4, 0, none⟩ (.int .i64 l.Id)) ⟨b4, 1, none⟩ (.int .i64 l.Token)) ⟨b4, 2, none⟩ (.string l.Path)) ⟨b4, 3, none⟩ (.int .i64 l.Made)) ⟨b4, 4, none⟩ (.int .i64 l.Ends)) ⟨b4, 5, none⟩ (.int .i64 l.Limit)) g := hR.cur.out hO6 (fun q hq => by subst hq; exact ⟨fun e => h4 e.symm, hB4⟩)
  have hOz : Out (fun q => q = g) w (World.setCell (World.setCell (World.setCell (World.setCell (World.setCell (World.setCell wz ⟨b4, 0, none⟩ (.int .i64 l.Id)) ⟨b4, 1, none⟩ (.int .i64 l.Token)) ⟨b4, 2, none⟩ (.string l.Path)) ⟨b4, 3, none⟩ (.int .i64 l.Made)) ⟨b4, 4, none⟩ (.int .i64 l.Ends)) ⟨b4, 5, none⟩ (.int .i64 l.Limit)) := hR.out.join hO6 (fun q hq => by right; omega)
  clear hcB hcZ hfZ hlZ
  generalize (World.setCell (World.setCell (World.setCell (World.setCell (World.setCell (World.setCell wz ⟨b4, 0, none⟩ (.int .i64 l.Id)) ⟨b4, 1, none⟩ (.int .i64 l.Token)) ⟨b4, 2, none⟩ (.string l.Path)) ⟨b4, 3, none⟩ (.int .i64 l.Made)) ⟨b4, 4, none⟩ (.int .i64 l.Ends)) ⟨b4, 5, none⟩ (.int .i64 l.Limit)) = wy at *
  have hcZ := Y4.cell; have hfZ := Y4.frozen
  refine bodyPost_ret (v := .agg #[.int .i64 l.Id, .int .i64 l.Token, .string l.Path, .int .i64 l.Made, .int .i64 l.Ends, .int .i64 l.Limit]) (by simp [results, Tryd.results28, go_sem, hcZ, hfZ]) rfl ⟨l, rfl, hlb, hcz, hOz⟩
end Go.Proofs.YtohfnpohmieknaaDoor

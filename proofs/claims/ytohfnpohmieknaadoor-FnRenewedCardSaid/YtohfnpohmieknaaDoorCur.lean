/- The cursor of the draws: what it lets hold; the bytes that it reads lie below the block number B. -/
import Derived.Test.YtohfnpohmieknaaDoorImplWithin
import Derived.Test.YtohfnpohmieknaaDoorRep
import Derived.Test.YtohfnpohmieknaaDoorByteS
import Derived.Test.YtohfnpohmieknaaDoorIntS
import Derived.Laws.BitsAllLaws
import Derived.Deep.DeepCutAuto
import Derived.Deep.AppendLies
import Derived.Test.YtohfnpohmieknaaDoorAppend
set_option linter.unusedSimpArgs false
set_option linter.unusedVariables false
set_option maxRecDepth 20000
namespace Go.Proofs.YtohfnpohmieknaaDoor
open Go.RowKit
theorem and255 (y : Int) : 0 ≤ bits .and .i64 y 255 ∧ bits .and .i64 y 255 ≤ 255 := by
  have h : bits .and .i64 y 255 = IntKind.i64.wrap ((BitVec.ofInt 64 y &&& BitVec.ofInt 64 255).toNat : Int) := rfl
  have h2 : (BitVec.ofInt 64 y &&& BitVec.ofInt 64 255).toNat ≤ 255 := by
    rw [BitVec.toNat_and]
    exact Nat.le_trans Nat.and_le_right (by decide)
  rw [h, IntKind.wrap_i64]
  omega
theorem own_out {w w' : World} {S : Nat → Prop} {base : Nat} {e : TypeId} {size n : Nat} {v : Value} {xs : List Value} (h : w.ownsRow base e size v n xs) (ho : Out S w w') (hS : ∀ q, v.ownBlock = some q → ¬ S q) : w'.ownsRow base e size v n xs := by
  refine ⟨h.1, ?_⟩
  rcases h.2 with hn | ⟨g, cap, cur, rfl, h0, hg, rest⟩
  · exact .inl hn
  · exact .inr ⟨g, cap, cur, rfl, h0, by rw [ho.block g (Array.getElem?_eq_some_iff.1 hg).1 (hS g rfl)]; exact hg, rest⟩
/-- A cursor lies whole in the block g; its bytes can be read below it. -/
def Cur (B : Nat) (w : World) (g : Nat) : Prop := ∃ (A : Option Addr) (n c : Nat) (xs : List UInt8) (i h : Int), Blk w g 55 #[.slice A n c, .int .i64 i, .int .i64 h] ∧ Reads w B A (xs.map byteV) ∧ xs.length = n ∧ n ≤ 1048576 ∧ 0 ≤ i ∧ i ≤ n ∧ B ≤ g
variable {B : Nat}
theorem Cur.lt {w : World} {g : Nat} (h : Cur B w g) : g < w.heap.size := by obtain ⟨A, n, c, xs, i, h, hb, -⟩ := h; exact hb.lt
theorem Cur.below {w w' : World} {g : Nat} (h : Cur B w g) (hb : Below w.heap.size w w') : Cur B w' g := by
  obtain ⟨A, n, c, xs, i, h, hk, hr, h1, h2, h3, h4, h5⟩ := h
  have := hk.lt
  exact ⟨A, n, c, xs, i, h, hk.keep hb, hr.below hb (by omega), h1, h2, h3, h4, h5⟩
theorem Cur.out {S : Nat → Prop} {w w' : World} {g : Nat} (h : Cur B w g) (ho : Out S w w') (hS : ∀ q, S q → q ≠ g ∧ B ≤ q) : Cur B w' g := by
  obtain ⟨A, n, c, xs, i, h, hk, hr, h1, h2, h3, h4, h5⟩ := h
  have hl := hk.lt
  exact ⟨A, n, c, xs, i, h, hk.out ho (fun hg => by have := hS g hg; omega), hr.below (ho.below (B := B) (by omega) (fun k hk => by have := hS k hk; omega)) (Nat.le_refl _), h1, h2, h3, h4, h5⟩
theorem Cur.le {w : World} {g : Nat} (h : Cur B w g) : B ≤ g := by obtain ⟨A, n, c, xs, i, h, -, -, -, -, -, -, h5⟩ := h; exact h5
theorem Cur.drew {w : World} {g : Nat} (h : Cur B w g) : Cur B w.drew g := h.below ((Below.refl _ _).drew)
/-- A step of a draw: the cursor moved on, all else as it was. -/
def Drawn (B : Nat) (w w' : World) (g : Nat) : Prop := Cur B w' g ∧ Out (fun q => q = g) w w'
theorem Drawn.trans {a b c : World} {g : Nat} (h : Drawn B a b g) (k : Drawn B b c g) : Drawn B a c g := ⟨k.1, h.2.trans k.2⟩
theorem Drawn.refl {w : World} {g : Nat} (h : Cur B w g) : Drawn B w w g := ⟨h, Out.refl _ _⟩
theorem Drawn.size {w w' : World} {g : Nat} (h : Drawn B w w' g) : w.heap.size ≤ w'.heap.size := h.2.size
theorem Drawn.below {w w' : World} {g : Nat} (h : Drawn B w w' g) {B' : Nat} (hB : B' ≤ g) (hg : g ≤ w.heap.size) : Below B' w w' := h.2.below (by omega) (fun k hk => by omega)
theorem out_set (w : World) (g i : Nat) (v : Value) : Out (fun q => q = g) w (w.setCell ⟨g, i, none⟩ v) := Out.setCell (S := fun q => q = g) (Out.refl _ _) rfl _
set_option maxHeartbeats 1600000 in
theorem spec_l01Byte (g : Nat) (w : World) (hc : Cur B w g) :
    Calls Tryd.prog 22 #[.pointer (some ⟨g, 0, none⟩)] w fun e w' => ∃ x : Int, e = .returned (.int .i64 x) ∧ 0 ≤ x ∧ x ≤ 255 ∧ Drawn B w w' g := by
  obtain ⟨A, n, c, xs, i, h, hk, hr, hn, hn2, hi0, hi1, hBg⟩ := hc
  have hc0 := hk.cell
  have hf0 := hk.frozen
  go_enter Tryd.func22, Tryd.ntmps22
  go_wp2_with fail
  obtain ⟨h1, hh1⟩ : ∃ h1, wrap64 (wrap64 (h * 6364136223846793005) + 1442695040888963407) = h1 := ⟨_, rfl⟩
  rw [hh1]
  clear hh1
  have hO1 : Out (fun q => q = g) w (w.setCell ⟨g, 2, none⟩ (.int .i64 h1)) := out_set _ _ _ _
  have BK1 : Blk (w.setCell ⟨g, 2, none⟩ (.int .i64 h1)) g 55 #[.slice A n c, .int .i64 i, .int .i64 h1] := by simpa using hk.set_ 2 (.int .i64 h1)
  generalize w.setCell ⟨g, 2, none⟩ (.int .i64 h1) = w1 at *
  have hlt1 := BK1.lt
  have hr1 := hr.below (hO1.below (B := B) (by have := hk.lt; omega) (fun q hq => by omega)) (Nat.le_refl _)
  have q1 := BK1.later
  have hx := and255 (bits .xor .i64 (h1 / 8589934592) (h1 / 35184372088832))
  refine wp_region_later (by kernel_rfl) (by kernel_rfl) ?_
  repeat (first | go_big_quiet_step (fail) | quiet_step (fail))
  refine wpQuiet_nil ?_
  intro w2 hb2
  have hO2 := hO1.step hb2
  replace BK1 := BK1.keep hb2
  clear q1
  have q1 := BK1.later
  have hr2 := hr1.below hb2 (by omega)
  clear hr1
  generalize bits .and .i64 (bits .xor .i64 (h1 / 8589934592) (h1 / 35184372088832)) 255 = x at *
  by_cases hlt : i < n
  · obtain ⟨k, rfl⟩ : ∃ k : Nat, i = k := ⟨i.toNat, by omega⟩
    have hkx : k < (xs.map byteV).length := by rw [List.length_map, hn]; omega
    obtain ⟨b, off, rfl, hab, hcx⟩ := hr2.at_ hkx (Below.refl _ _) (Nat.le_refl _)
    obtain ⟨u, hu1, -, -⟩ := map_at byteV xs k hkx
    rw [hu1] at hcx
    simp only [byteV] at hcx
    have hub := u.toNat_lt
    have q2 := later_cell hcx
    have HN := Lib.hid hn
    clear hn hkx hu1
    go_wp2_with fail
    refine wp_region_later (by kernel_rfl) (by kernel_rfl) ?_
    repeat (first | go_big_quiet_step (fail) | quiet_step (fail))
    refine wpQuiet_nil ?_
    intro w3 hb3
    have hO3 := hO2.step hb3
    replace BK1 := BK1.keep hb3
    have hcx3 := (hb3.cell (World.block_lt_of_cell? _ _ hcx)).trans hcx
    clear q1 q2
    have q1 := BK1.later
    have q2 := later_cell hcx3
    have hx2 := and255 (x + (u.toNat : Int))
    go_wp2_with fail
    refine wp_region_later (by kernel_rfl) (by kernel_rfl) ?_
    repeat (first | go_big_quiet_step (fail) | quiet_step (fail))
    refine wpQuiet_nil ?_
    intro w4 hb4
    have hO4 := hO3.step hb4
    replace BK1 := BK1.keep hb4
    have hr4 := (hr2.below hb3 (by have := hb2.size; omega)).below hb4 (by have := hb2.size; have := hb3.size; omega)
    generalize bits .and .i64 (x + (u.toNat : Int)) 255 = y at *
    have hc4 := BK1.cell
    have hf4 := BK1.frozen
    go_wp2_with fail
    go_ret
    refine ⟨y, rfl, hx2.1, hx2.2, ⟨_, _, _, xs, _, _, BK1.set_ 1 _, ?_, HN.out, hn2, ?_, ?_, hBg⟩, hO4.trans (out_set _ _ _ _)⟩
    · exact hr4.below ((Below.refl B w4).setCell hBg _) (Nat.le_refl _)
    · first | omega | (simp; omega)
    · first | omega | (simp; omega)
  · go_wp2_with fail
    refine wp_region_later (by kernel_rfl) (by kernel_rfl) ?_
    repeat (first | go_big_quiet_step (fail) | quiet_step (fail))
    refine wpQuiet_nil ?_
    intro w3 hb3
    go_wp2_with fail
    go_ret
    exact ⟨x, rfl, hx.1, hx.2, ⟨_, _, _, xs, _, _, BK1.keep hb3, hr2.below hb3 (by have := hb2.size; omega), hn, hn2, hi0, hi1, hBg⟩, hO2.step hb3⟩
set_option maxHeartbeats 1600000 in
theorem spec_l01Below (g : Nat) (n : Int) (w : World) (hc : Cur B w g) (hn : n ≤ 1073741824) :
    Calls Tryd.prog 10 #[.pointer (some ⟨g, 0, none⟩), .int .i64 n] w fun e w' => ∃ x : Int, e = .returned (.int .i64 x) ∧ 0 ≤ x ∧ (0 < n → x < n) ∧ (n ≤ 0 → x = 0) ∧ Drawn B w w' g := by
  by_cases h0 : n ≤ 0
  · go_enter Tryd.func10, Tryd.ntmps10
    go_wp2
    go_ret
    exact ⟨0, rfl, by omega, by omega, by omega, Drawn.refl hc⟩
  by_cases h1 : n ≤ 256
  · go_enter Tryd.func10, Tryd.ntmps10
    go_wp2_with fail
    refine (spec_l01Byte g _ hc).mono ?_
    rintro e w1 ⟨x, rfl, hx0, hx1, hd1⟩
    have hr : Int.tmod x n = x % n := Int.tmod_eq_emod_of_nonneg hx0
    have hm0 := Int.emod_nonneg x (b := n) (by omega)
    have hm1 := Int.emod_lt_of_pos x (b := n) (by omega)
    have hz : n ≠ 0 := by omega
    go_wp2
    go_ret
    exact ⟨x % n, rfl, hm0, fun _ => hm1, by omega, hd1⟩
  · go_enter Tryd.func10, Tryd.ntmps10
    go_wp2_with fail
    refine (spec_l01Byte g _ hc).mono ?_
    rintro e w1 ⟨x, rfl, hx0, hx1, hd1⟩
    go_wp2_with fail
    refine (spec_l01Byte g _ hd1.1).mono ?_
    rintro e w2 ⟨y, rfl, hy0, hy1, hd2⟩
    go_wp2_with fail
    refine (spec_l01Byte g _ hd2.1).mono ?_
    rintro e w3 ⟨z, rfl, hz0, hz1, hd3⟩
    have hr : Int.tmod (x * 65536 + y * 256 + z) n = (x * 65536 + y * 256 + z) % n := Int.tmod_eq_emod_of_nonneg (by omega)
    have hm0 := Int.emod_nonneg (x * 65536 + y * 256 + z) (b := n) (by omega)
    have hm1 := Int.emod_lt_of_pos (x * 65536 + y * 256 + z) (b := n) (by omega)
    have hz : n ≠ 0 := by omega
    go_wp2
    go_ret
    exact ⟨(x * 65536 + y * 256 + z) % n, rfl, hm0, fun _ => hm1, by omega, (hd1.trans hd2).trans hd3⟩
theorem spec_l01Once (g : Nat) (n : Int) (w : World) (hc : Cur B w g) (hn : n ≤ 1073741824) :
    Calls Tryd.prog 20 #[.pointer (some ⟨g, 0, none⟩), .int .i64 n] w fun e w' => ∃ b : Bool, e = .returned (.bool b) ∧ Drawn B w w' g := by
  go_enter Tryd.func20, Tryd.ntmps20
  go_wp2_with fail
  refine (spec_l01Below g n _ hc hn).mono ?_
  rintro e w1 ⟨x, rfl, hx0, hx1, hx2, hd1⟩
  go_wp2
  go_ret
  exact ⟨_, rfl, hd1⟩
set_option maxHeartbeats 1600000 in
/-- One of a list that is not empty; P holds of what is drawn if it holds of all of the list. -/
theorem spec_l01PickInt (g : Nat) (A : Option Addr) (c : Nat) (xs : List Int) (P : Int → Prop) (w : World) (hc : Cur B w g) (hr : Reads w w.heap.size A (xs.map intV)) (hg : ∀ b off, A = some ⟨b, off, none⟩ → b ≠ g) (h0 : 0 < xs.length) (hl : xs.length ≤ 1000) (hP : ∀ x ∈ xs, P x) :
    Calls Tryd.prog 11 #[.pointer (some ⟨g, 0, none⟩), .slice A xs.length c] w fun e w' => ∃ x : Int, e = .returned (.int .i64 x) ∧ P x ∧ Drawn B w w' g := by
  go_enter Tryd.func11, Tryd.ntmps11
  go_wp2_with fail
  refine (spec_l01Below g xs.length _ hc (by omega)).mono ?_
  rintro e w1 ⟨x, rfl, hx0, hx1, hx2, hd1⟩
  have hx := hx1 (by omega)
  obtain ⟨k, rfl⟩ : ∃ k : Nat, x = k := ⟨x.toNat, by omega⟩
  have hk : k < xs.length := by omega
  obtain ⟨b, off, rfl, hab, hcx⟩ := hr.get (k := k) (u := intV xs[k]) (by rw [List.getElem?_map, List.getElem?_eq_getElem hk]; rfl) (Below.refl _ _) (Nat.le_refl _)
  have hne := hg b off rfl
  have hpx := hP _ (List.getElem_mem hk)
  generalize xs[k]'hk = v at *
  simp only [intV] at hcx
  have hcx1 : w1.cell? ⟨b, off + k, none⟩ = some (.int .i64 v) := by
    rw [← hcx]
    have hb := hd1.2.block b hab hne
    exact World.cell?_of_block (w := w) hb
  go_wp2
  go_ret
  exact ⟨v, rfl, hpx, hd1⟩
theorem spec_l01Size (A : Option Addr) (n c : Nat) (m : Int) (w : World) (hn : n ≤ 1048576) (h0 : 2 ≤ m) (hm : m ≤ 1073741824) :
    Calls Tryd.prog 19 #[.slice A n c, .int .i64 m] w fun e w' => ∃ x : Int, e = .returned (.int .i64 x) ∧ 2 ≤ x ∧ x ≤ m ∧ w = w' := by
  go_enter Tryd.func19, Tryd.ntmps19
  go_wp2
  all_goals
    go_ret
    refine ⟨_, rfl, ?_, ?_, rfl⟩ <;> omega
theorem h30 (y : Int) : 0 ≤ bits .and .i64 y 1073741823 ∧ bits .and .i64 y 1073741823 ≤ 1073741823 := by
  have h : bits .and .i64 y 1073741823 = IntKind.i64.wrap ((BitVec.ofInt 64 y &&& BitVec.ofInt 64 1073741823).toNat : Int) := rfl
  have h2 : (BitVec.ofInt 64 y &&& BitVec.ofInt 64 1073741823).toNat ≤ 1073741823 := by
    rw [BitVec.toNat_and]
    exact Nat.le_trans Nat.and_le_right (by decide)
  rw [h, IntKind.wrap_i64]
  omega
set_option maxHeartbeats 1600000 in
theorem spec_l01New (A : Option Addr) (c : Nat) (xs : List UInt8) (w : World) (hr0 : Reads w B A (xs.map byteV)) (hB : B ≤ w.heap.size) (hm : xs.length ≤ 1048576) :
    Calls Tryd.prog 18 #[.slice A xs.length c] w fun e w' => e = .returned (.pointer (some ⟨w.heap.size, 0, none⟩)) ∧ Cur B w' w.heap.size ∧ Below w.heap.size w w' := by
  have hr := hr0.more hB
  generalize hn : xs.length = n at hm
  have Hn := Lib.hid hn
  clear hn
  go_enter Tryd.func18, Tryd.ntmps18
  go_wp2
  go_loop [3, 4] (fun h i => ∃ (k : Nat) (H : Int), k ≤ n ∧ i = .int .i64 k ∧ h = .int .i64 H ∧ 0 ≤ H ∧ H ≤ 1074447558) (fun _ i => n - (intOf i).toNat)
  case atStart => exact ⟨0, _, Nat.zero_le _, rfl, rfl, by omega, by omega⟩
  case round =>
    obtain ⟨k, H, hk, rfl, rfl, hH0, hH1⟩ := hrel
    by_cases hlt : k < n
    · have hlx : k < (xs.map byteV).length := by simpa [Hn.out] using hlt
      obtain ⟨g, off, rfl, hab, hc1⟩ := hr.at_ hlx (Below.refl _ _) (Nat.le_refl _)
      obtain ⟨u, hu1, -, -⟩ := map_at byteV xs k hlx
      rw [hu1] at hc1
      simp only [byteV] at hc1
      have hub := u.toNat_lt
      clear hlx hu1
      by_cases h4 : k < 4000
      · have hb := h30 (H * 149 + (u.toNat : Int) + 11)
        go_wp2
        go_round
        case rel => exact ⟨k + 1, _, by omega, by go_num, rfl, hb.1, by omega⟩
        case measure => simp [intOf]; omega
      · go_wp2
        go_ret
        exact ⟨rfl, ⟨_, n, c, xs, 0, H, Blk.new' rfl, hr0.below (by (repeat (first | (with_reducible exact Below.refl _ _) | (with_reducible assumption) | ((with_reducible refine Below.setCell ?_ ?_ _); rotate_left; focus (first | omega | (simp; done) | (simp; omega))) | ((with_reducible refine Below.alloc ?_ ?_ _); rotate_left; focus (first | omega | (simp; done) | (simp; omega))) | (with_reducible refine Below.drew ?_) | (with_reducible refine below_drewN ?_ _) | (refine Below.trans ?_ (Below.mono (by with_reducible assumption) (by (first | omega | (simp; done) | (simp; omega)))))))) hB, Hn.out, hm, by omega, by omega, hB⟩, by (repeat (first | (with_reducible exact Below.refl _ _) | (with_reducible assumption) | ((with_reducible refine Below.setCell ?_ ?_ _); rotate_left; focus (first | omega | (simp; done) | (simp; omega))) | ((with_reducible refine Below.alloc ?_ ?_ _); rotate_left; focus (first | omega | (simp; done) | (simp; omega))) | (with_reducible refine Below.drew ?_) | (with_reducible refine below_drewN ?_ _) | (refine Below.trans ?_ (Below.mono (by with_reducible assumption) (by (first | omega | (simp; done) | (simp; omega)))))))⟩
    · obtain rfl : k = n := by omega
      go_wp2
      go_ret
      exact ⟨rfl, ⟨_, k, c, xs, 0, H, Blk.new' rfl, hr0.below (by (repeat (first | (with_reducible exact Below.refl _ _) | (with_reducible assumption) | ((with_reducible refine Below.setCell ?_ ?_ _); rotate_left; focus (first | omega | (simp; done) | (simp; omega))) | ((with_reducible refine Below.alloc ?_ ?_ _); rotate_left; focus (first | omega | (simp; done) | (simp; omega))) | (with_reducible refine Below.drew ?_) | (with_reducible refine below_drewN ?_ _) | (refine Below.trans ?_ (Below.mono (by with_reducible assumption) (by (first | omega | (simp; done) | (simp; omega)))))))) hB, Hn.out, hm, by omega, by omega, hB⟩, by (repeat (first | (with_reducible exact Below.refl _ _) | (with_reducible assumption) | ((with_reducible refine Below.setCell ?_ ?_ _); rotate_left; focus (first | omega | (simp; done) | (simp; omega))) | ((with_reducible refine Below.alloc ?_ ?_ _); rotate_left; focus (first | omega | (simp; done) | (simp; omega))) | (with_reducible refine Below.drew ?_) | (with_reducible refine below_drewN ?_ _) | (refine Below.trans ?_ (Below.mono (by with_reducible assumption) (by (first | omega | (simp; done) | (simp; omega)))))))⟩

theorem Drawn.wide {w w' : World} {g : Nat} (h : Drawn B w w' g) {w0 : World} (hb : Below w0.heap.size w0 w) : Out (fun q => q = g) w0 w' := (Out.of_below hb).trans h.2
theorem own_drawn {w w' : World} {g base : Nat} {e : TypeId} {size n : Nat} {v : Value} {xs : List Value} (h : w.ownsRow base e size v n xs) (hd : Drawn B w w' g) (hg : g < base) : w'.ownsRow base e size v n xs :=
  own_out h hd.2 (fun q hq he => by have := (h.lt q hq).1; omega)
theorem out_gr {w w' : World} {row : Option Nat} (hg : w.grownBy w' row) : Out (fun q => row = some q) w w' := ⟨hg.os, hg.tape, hg.output, hg.size, fun k hk hs => hg.block k hk (fun e => hs e.symm)⟩
theorem Out.growR {S : Nat → Prop} {a w w' : World} {row : Option Nat} (h : Out S a w) (hg : w.grownBy w' row) (hr : ∀ q, row = some q → a.heap.size ≤ q) : Out S a w' :=
  ⟨hg.os.trans h.os, hg.tape.trans h.tape, hg.output.trans h.output, Nat.le_trans h.size hg.size, fun k hk hs => (hg.block k (Nat.lt_of_lt_of_le hk h.size) (fun e => by have := hr k e.symm; omega)).trans (h.block k hk hs)⟩
theorem byteV_mod (x : Int) : byteV (UInt8.ofNat (x % 256).toNat) = .int .u8 (x % 256) := by
  show Value.int .u8 ((UInt8.ofNat (x % 256).toNat).toNat : Int) = _
  rw [UInt8.toNat_ofNat_of_lt' (by show _ < 256; omega)]
  congr 1
  omega
theorem Out.newer {S : Nat → Prop} {a w : World} (h : Out S a w) {p : Addr} (hp : a.heap.size ≤ p.block) (u : Value) : Out S a (w.setCell p u) :=
  ⟨h.os, h.tape, h.output, by simpa using h.size, fun k hk hs => (Below.heap_setCell _ _ _ _ (by omega)).trans (h.block k hk hs)⟩
theorem spec_pickLit (g : Nat) (w : World) (cs : List Int) (hc : Cur B w g) (h0 : 0 < cs.length) (hl : cs.length ≤ 1000) :
    Calls Tryd.prog 11 #[.pointer (some ⟨g, 0, none⟩), .slice (some ⟨w.heap.size, 0, none⟩) cs.length cs.length] (w.alloc (.cells (cs.map intV).toArray 3)) fun e w' => ∃ x : Int, e = .returned (.int .i64 x) ∧ x ∈ cs ∧ Cur B w' g ∧ Out (fun q => q = g) w w' ∧ w.heap.size + 1 ≤ w'.heap.size := by
  have hb : Below w.heap.size w (w.alloc (.cells (cs.map intV).toArray 3)) := by (repeat (first | (with_reducible exact Below.refl _ _) | (with_reducible assumption) | ((with_reducible refine Below.setCell ?_ ?_ _); rotate_left; focus (first | omega | (simp; done) | (simp; omega))) | ((with_reducible refine Below.alloc ?_ ?_ _); rotate_left; focus (first | omega | (simp; done) | (simp; omega))) | (with_reducible refine Below.drew ?_) | (with_reducible refine below_drewN ?_ _) | (refine Below.trans ?_ (Below.mono (by with_reducible assumption) (by (first | omega | (simp; done) | (simp; omega)))))))
  have hgl := hc.lt
  have hB : Blk (w.alloc (.cells (cs.map intV).toArray 3)) w.heap.size 3 (cs.map intV).toArray := Blk.new' rfl
  refine (spec_l01PickInt g _ _ cs (fun x => x ∈ cs) _ (hc.below hb) (Reads.of_blk hB) (fun b off hb => by simp only [Option.some.injEq, Addr.mk.injEq] at hb; omega) h0 hl (fun _ h => h)).mono ?_
  rintro e w' ⟨x, rfl, hx, hd⟩
  have hs := hd.size
  exact ⟨x, rfl, hx, hd.1, (Out.of_below hb).trans hd.2, by simpa using hs⟩
theorem heap_at (w : World) (o o2 : Obj) : ((w.alloc o).alloc o2).heap[w.heap.size + 1]? = some o2 := by
  have hs : (w.alloc o).heap.size = w.heap.size + 1 := by simp
  have := heap_alloc_new (w.alloc o) o2
  rw [hs] at this
  exact this
end Go.Proofs.YtohfnpohmieknaaDoor

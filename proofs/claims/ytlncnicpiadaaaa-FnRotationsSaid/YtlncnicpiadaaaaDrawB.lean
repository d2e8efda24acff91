/- Drawn bytes, keys and plain texts. -/
import Derived.Test.YtlncnicpiadaaaaDraw
import Derived.Test.YtlncnicpiadaaaaAppend
set_option linter.unusedSimpArgs false
set_option linter.unusedVariables false
set_option maxRecDepth 20000
namespace Go.Proofs.Ytlncnicpiadaaaa
open Go.RowKit
theorem Drawn.wide {w w' : World} {g : Nat} (h : Drawn w w' g) {w0 : World} (hb : Below w0.heap.size w0 w) : Out (fun q => q = g) w0 w' := (Out.of_below hb).trans h.2
theorem own_drawn {w w' : World} {g base : Nat} {e : TypeId} {size n : Nat} {v : Value} {xs : List Value} (h : w.ownsRow base e size v n xs) (hd : Drawn w w' g) (hg : g < base) : w'.ownsRow base e size v n xs :=
  own_out h hd.2 (fun q hq he => by have := (h.lt q hq).1; omega)
theorem out_gr {w w' : World} {row : Option Nat} (hg : w.grownBy w' row) : Out (fun q => row = some q) w w' := ⟨hg.os, hg.tape, hg.output, hg.size, fun k hk hs => hg.block k hk (fun e => hs e.symm)⟩
theorem Out.growR {S : Nat → Prop} {a w w' : World} {row : Option Nat} (h : Out S a w) (hg : w.grownBy w' row) (hr : ∀ q, row = some q → a.heap.size ≤ q) : Out S a w' :=
  ⟨hg.os.trans h.os, hg.tape.trans h.tape, hg.output.trans h.output, Nat.le_trans h.size hg.size, fun k hk hs => (hg.block k (Nat.lt_of_lt_of_le hk h.size) (fun e => by have := hr k e.symm; omega)).trans (h.block k hk hs)⟩
theorem byteV_mod (x : Int) : byteV (UInt8.ofNat (x % 256).toNat) = .int .u8 (x % 256) := by
  show Value.int .u8 ((UInt8.ofNat (x % 256).toNat).toNat : Int) = _
  rw [UInt8.toNat_ofNat_of_lt' (by show _ < 256; omega)]
  congr 1
  omega
set_option maxHeartbeats 3200000 in
theorem spec_l01DrawBytes (g : Nat) (n : Int) (w : World) (hc : Cur w g) (hn : n ≤ 1048576) :
    Calls Try.prog 67 #[.pointer (some ⟨g, 0, none⟩), .int .i64 n] w fun e w' => ∃ (A : Option Addr) (c : Nat) (xs : List UInt8), e = .returned (.slice A xs.length c) ∧ xs.length = n.toNat ∧ w'.ownsRow w.heap.size 5 1 (.slice A xs.length c) xs.length (xs.map byteV) ∧ Cur w' g ∧ Out (fun q => q = g) w w' := by
  obtain ⟨i0, hi0, hI0, hI1, hI2⟩ := info_parts info_uint8
  have hgl := hc.lt
  go_enter Try.func67, Try.ntmps67
  go_wp2
  go_loopw [5, 6] (fun o i wr => ∃ (k : Nat) (A1 : Option Addr) (c1 : Nat) (xs : List UInt8), k ≤ n.toNat ∧ i = .int .i64 k ∧ o = .slice A1 k c1 ∧ wr.ownsRow w.heap.size 5 1 (.slice A1 k c1) k (xs.map byteV) ∧ Hid (xs.length = k) ∧ Cur wr g ∧ Out (fun q => q = g) w wr ∧ w.heap.size ≤ wr.heap.size) (fun _ i _ => n.toNat - (intOf i).toNat)
  case atStart => exact ⟨0, some ⟨w.heap.size, 0, none⟩, 0, [], Nat.zero_le _, rfl, rfl, World.ownsRow_lit w #[] 0 (Nat.le_refl _) (by simp [maxLen]) rfl, rfl, hc.below (by (repeat (first | (with_reducible exact Below.refl _ _) | (with_reducible assumption) | ((with_reducible refine Below.setCell ?_ ?_ _); rotate_left; focus (first | omega | (simp; done) | (simp; omega))) | ((with_reducible refine Below.alloc ?_ ?_ _); rotate_left; focus (first | omega | (simp; done) | (simp; omega))) | (with_reducible refine Below.drew ?_) | (with_reducible refine below_drewN ?_ _) | (refine Below.trans ?_ (Below.mono (by with_reducible assumption) (by (first | omega | (simp; done) | (simp; omega)))))))), Out.of_below (by (repeat (first | (with_reducible exact Below.refl _ _) | (with_reducible assumption) | ((with_reducible refine Below.setCell ?_ ?_ _); rotate_left; focus (first | omega | (simp; done) | (simp; omega))) | ((with_reducible refine Below.alloc ?_ ?_ _); rotate_left; focus (first | omega | (simp; done) | (simp; omega))) | (with_reducible refine Below.drew ?_) | (with_reducible refine below_drewN ?_ _) | (refine Below.trans ?_ (Below.mono (by with_reducible assumption) (by (first | omega | (simp; done) | (simp; omega)))))))), by simp⟩
  case round =>
    obtain ⟨k, A1, c1, xs, hk, rfl, rfl, hown, hxl, hcu, hO, hzr⟩ := hrel
    by_cases hlt : (k : Int) < n
    · go_wp2_with fail
      refine (spec_l01Below g 256 _ hcu (by omega)).mono ?_
      rintro e w1 ⟨x, rfl, hx0, -, -, hd1⟩
      have hz1 := hd1.size
      go_wp2_with fail
      refine (spec_l01Below g 256 _ hd1.1 (by omega)).mono ?_
      rintro e w2 ⟨y, rfl, hy0, -, -, hd2⟩
      have hz2 := hd2.size
      go_wp2_with fail
      have hb2 : Below w2.heap.size w2 (w2.alloc (.cells #[.int .i64 0, .int .i64 1, .int .i64 255, .int .i64 128, .int .i64 x, .int .i64 y] 3)) := by (repeat (first | (with_reducible exact Below.refl _ _) | (with_reducible assumption) | ((with_reducible refine Below.setCell ?_ ?_ _); rotate_left; focus (first | omega | (simp; done) | (simp; omega))) | ((with_reducible refine Below.alloc ?_ ?_ _); rotate_left; focus (first | omega | (simp; done) | (simp; omega))) | (with_reducible refine Below.drew ?_) | (with_reducible refine below_drewN ?_ _) | (refine Below.trans ?_ (Below.mono (by with_reducible assumption) (by (first | omega | (simp; done) | (simp; omega)))))))
      refine (spec_l01PickInt g _ _ [0, 1, 255, 128, x, y] (fun _ => True) _ (hd2.1.below hb2) (Reads.of_blk (t := 3) (cs := #[.int .i64 0, .int .i64 1, .int .i64 255, .int .i64 128, .int .i64 x, .int .i64 y]) (Blk.new' rfl)) (fun b off hb => by simp only [Option.some.injEq, Addr.mk.injEq] at hb; omega) (by simp) (by simp) (fun _ _ => trivial)).mono ?_
      rintro e w3 ⟨v, rfl, -, hd3⟩
      have hz3 : w2.heap.size + 1 ≤ w3.heap.size := by simpa using hd3.size
      have h3 := own_drawn ((own_drawn (own_drawn hown hd1 hgl) hd2 hgl).alloc _) hd3 hgl
      have HV := Lib.hid (byteV_mod v)
      go_wp2_with (first | (at_builtin; go_loud (refine wpList_append_own_at _ rfl _ _ 25 rfl w.heap.size 5 i0 (.int .u8 0) 1 1 Try.underlying25 hi0 hI0 hI1 hI2 rfl (by decide) _ _ _ rfl (h3.alloc _) ⟨w3.heap.size, 0, none⟩ 1 1 [byteV (UInt8.ofNat (v % 256).toNat)] rfl rfl ?c1 ?c2 ?c3 ?c4 ?c5 ?_; (case c1 => (rw [HV.out]; exact cell_one_new _ _ _)); (case c2 => simp [byteV, Value.oneCell']); (case c3 => (simp only [maxLen]; omega)); (case c4 => omega); (case c5 => (simp; omega)); intro v' wA hown1 hgrow hnil hat; obtain ⟨gg, cap, rfl, hg1, hg2⟩ := hown1.form (by omega))))
      go_roundw
      case rel =>
        have hsz := hgrow.size
        simp at hsz
        refine ⟨k + 1, some ⟨gg, 0, none⟩, cap, xs ++ [UInt8.ofNat (v % 256).toNat], by omega, by go_num, by rfl, ?_, Lib.hid (by rw [List.length_append, hxl.out]; rfl), ?_, ?_, by omega⟩
        · rw [List.map_append]; exact hown1
        · exact (hd3.1.below (((Below.refl _ w3).alloc (Nat.le_refl _) _))).out (out_gr hgrow) (fun q hq => by have := (h3.lt q hq).1; omega)
        · exact ((((hO.trans hd1.2).trans hd2.2).alloc _).trans hd3.2 |>.alloc _).growR hgrow (fun q hq => (h3.lt q hq).1)
      case measure => simp [intOf]; omega
    · go_wp2
      go_ret
      obtain rfl : k = n.toNat := by omega
      exact ⟨_, c1, xs, by rw [hxl.out]; rfl, hxl.out, by rw [hxl.out]; exact hown, hcu, hO⟩
theorem spec_l04DrawGood (g : Nat) (w : World) (hc : Cur w g) :
    Calls Try.prog 66 #[.pointer (some ⟨g, 0, none⟩)] w fun e w' => ∃ x : Int, e = .returned (.int .i64 x) ∧ Drawn w w' g := by
  go_enter Try.func66, Try.ntmps66
  go_wp2_with fail
  refine (spec_l01Below g 16777216 _ hc (by omega)).mono ?_
  rintro e w1 ⟨x, rfl, hx0, hx1, -, hd1⟩
  have hx1' := hx1 (by omega)
  go_wp2_with fail
  refine (spec_l01Below g 65536 _ hd1.1 (by omega)).mono ?_
  rintro e w2 ⟨y, rfl, hy0, hy1, -, hd2⟩
  have hy1' := hy1 (by omega)
  go_wp2
  go_ret
  exact ⟨_, rfl, hd1.trans hd2⟩
set_option maxHeartbeats 1600000 in
theorem spec_l04DrawKey (g : Nat) (w : World) (hc : Cur w g) :
    Calls Try.prog 49 #[.pointer (some ⟨g, 0, none⟩)] w fun e w' => ∃ x : Int, e = .returned (.int .i64 x) ∧ Cur w' g ∧ Out (fun q => q = g) w w' := by
  have hgl := hc.lt
  go_enter Try.func49, Try.ntmps49
  go_wp2_with fail
  refine (spec_l01Below g 16777216 _ hc (by omega)).mono ?_
  rintro e w1 ⟨x, rfl, hx0, hx1, -, hd1⟩
  have hx1' := hx1 (by omega)
  go_wp2_with fail
  refine (spec_l01Below g 65536 _ hd1.1 (by omega)).mono ?_
  rintro e w2 ⟨y, rfl, hy0, hy1, -, hd2⟩
  have hy1' := hy1 (by omega)
  go_wp2_with fail
  refine (spec_l01Below g 1000 _ hd2.1 (by omega)).mono ?_
  rintro e w3 ⟨z, rfl, hz0, hz1, -, hd3⟩
  have hs1 := hd1.size
  have hs2 := hd2.size
  have hs3 := hd3.size
  go_wp2_with fail
  have hb3 : Below w3.heap.size w3 (w3.alloc (.cells #[.int .i64 0, .int .i64 1, .int .i64 1099511627776, .int .i64 (x * 65536 + y), .int .i64 (x * 65536 + y), .int .i64 (x * 65536 + y), .int .i64 z, .int .i64 1099511627777, .int .i64 (-1)] 3)) := by (repeat (first | (with_reducible exact Below.refl _ _) | (with_reducible assumption) | ((with_reducible refine Below.setCell ?_ ?_ _); rotate_left; focus (first | omega | (simp; done) | (simp; omega))) | ((with_reducible refine Below.alloc ?_ ?_ _); rotate_left; focus (first | omega | (simp; done) | (simp; omega))) | (with_reducible refine Below.drew ?_) | (with_reducible refine below_drewN ?_ _) | (refine Below.trans ?_ (Below.mono (by with_reducible assumption) (by (first | omega | (simp; done) | (simp; omega)))))))
  refine (spec_l01PickInt g _ _ [0, 1, 1099511627776, x * 65536 + y, x * 65536 + y, x * 65536 + y, z, 1099511627777, -1] (fun _ => True) _ (hd3.1.below hb3) (Reads.of_blk (t := 3) (cs := #[.int .i64 0, .int .i64 1, .int .i64 1099511627776, .int .i64 (x * 65536 + y), .int .i64 (x * 65536 + y), .int .i64 (x * 65536 + y), .int .i64 z, .int .i64 1099511627777, .int .i64 (-1)]) (Blk.new' rfl)) (fun b off hb => by simp only [Option.some.injEq, Addr.mk.injEq] at hb; omega) (by simp) (by simp) (fun _ _ => trivial)).mono ?_
  rintro e w4 ⟨v, rfl, -, hd4⟩
  go_wp2
  go_ret
  exact ⟨_, rfl, hd4.1, (((hd1.trans hd2).trans hd3).2.alloc _).trans hd4.2⟩
set_option maxHeartbeats 1600000 in
theorem spec_l04DrawPlain (g : Nat) (A0 : Option Addr) (n0 c0 : Nat) (w : World) (hc : Cur w g) (hn : n0 ≤ 1048576) :
    Calls Try.prog 50 #[.pointer (some ⟨g, 0, none⟩), .slice A0 n0 c0] w fun e w' => ∃ (A : Option Addr) (c : Nat) (xs : List UInt8), e = .returned (.slice A xs.length c) ∧ xs.length ≤ 2001 ∧ w'.ownsRow w.heap.size 5 1 (.slice A xs.length c) xs.length (xs.map byteV) ∧ Cur w' g ∧ Out (fun q => q = g) w w' := by
  go_enter Try.func50, Try.ntmps50
  go_wp2_with fail
  refine (spec_l01Once g 40 _ hc (by omega)).mono ?_
  rintro e w1 ⟨b, rfl, hd1⟩
  have hs1 := hd1.size
  cases b
  · go_wp2_with fail
    refine (spec_l01Size A0 n0 c0 40 _ hn (by omega) (by omega)).mono ?_
    rintro e w' ⟨m, rfl, hm0, hm1, rfl⟩
    go_wp2_with fail
    refine (spec_l01Below g m _ hd1.1 (by omega)).mono ?_
    rintro e w2 ⟨x, rfl, hx0, hx1, -, hd2⟩
    have hx := hx1 (by omega)
    have hs2 := hd2.size
    go_wp2_with fail
    refine (spec_l01DrawBytes g x _ hd2.1 (by omega)).mono ?_
    rintro e w3 ⟨A, c, xs, rfl, hl, ho, hcu, hO⟩
    replace hl := Lib.hid hl
    go_wp2
    go_ret
    exact ⟨A, c, xs, rfl, by have := hl.out; omega, own_base ho (by omega), hcu, (hd1.trans hd2).2.trans hO⟩
  · go_wp2_with fail
    refine (spec_l01Below g 2 _ hd1.1 (by omega)).mono ?_
    rintro e w2 ⟨x, rfl, hx0, hx1, -, hd2⟩
    have hx := hx1 (by omega)
    have hs2 := hd2.size
    go_wp2_with fail
    refine (spec_l01DrawBytes g (2000 + x) _ hd2.1 (by omega)).mono ?_
    rintro e w3 ⟨A, c, xs, rfl, hl, ho, hcu, hO⟩
    replace hl := Lib.hid hl
    go_wp2
    go_ret
    exact ⟨A, c, xs, rfl, by have := hl.out; omega, own_base ho (by omega), hcu, (hd1.trans hd2).2.trans hO⟩
end Go.Proofs.Ytlncnicpiadaaaa

/- FnExactSameRecord: the walk of the law. -/
import Derived.Test.YtollfgpheonakaaSame
namespace Go.Proofs.Ytollfgpheonakaa
open Go.RowKit
set_option maxHeartbeats 3200000 in
theorem law_FnExactSameRecord (aKind : Int) (aANums : Option Addr) (acNums : Nat) (aNums : List Int) (aATexts : Option Addr) (acTexts : Nat) (aTexts : List ByteArray) (bKind : Int) (bANums : Option Addr) (bcNums : Nat) (bNums : List Int) (bATexts : Option Addr) (bcTexts : Nat) (bTexts : List ByteArray) (w : World) (hraNums : Reads w w.heap.size aANums (aNums.map intV)) (hraTexts : Reads w w.heap.size aATexts (aTexts.map strV)) (hrbNums : Reads w w.heap.size bANums (bNums.map intV)) (hrbTexts : Reads w w.heap.size bATexts (bTexts.map strV)) (hm0aNums : aNums.length ≤ 9223372036854775807) (hm0aTexts : aTexts.length ≤ 9223372036854775807) (hm0bNums : bNums.length ≤ 9223372036854775807) (hm0bTexts : bTexts.length ≤ 9223372036854775807) (hsaTexts : ∀ s ∈ aTexts, s.size ≤ 9223372036854775807) (hsbTexts : ∀ s ∈ bTexts, s.size ≤ 9223372036854775807) :
    Calls Try.prog 5 #[.agg #[.int .i64 aKind, .slice aANums aNums.length acNums, .slice aATexts aTexts.length acTexts], .agg #[.int .i64 bKind, .slice bANums bNums.length bcNums, .slice bATexts bTexts.length bcTexts]] w fun e w' => e = .returned (.bool true) ∧ Below w.heap.size w w' := by
  go_enter Try.func5, Try.ntmps5
  go_wp2_with fail
  refine (laws_szRecord _ _ _ _ _ _ _ _ _ hm0aNums hm0aTexts (hraTexts.keep (by (repeat (first | (with_reducible exact Below.refl _ _) | (with_reducible assumption) | ((with_reducible refine Below.setCell ?_ ?_ _); rotate_left; focus (first | omega | (simp; done) | (simp; omega))) | ((with_reducible refine Below.alloc ?_ ?_ _); rotate_left; focus (first | omega | (simp; done) | (simp; omega))) | (with_reducible refine Below.drew ?_) | (with_reducible refine below_drewN ?_ _) | (refine Below.trans ?_ (Below.mono (by with_reducible assumption) (by (first | omega | (simp; done) | (simp; omega)))))))) (by first | omega | (simp; done) | (simp; omega))) hsaTexts (by first | omega | (simp; done) | (simp; omega)) (by first | omega | (simp; done) | (simp; omega))).mono ?_
  rintro e w1 ⟨rfl, hb1⟩
  have hz1 := hb1.size; try simp at hz1
  have BK0 : Blk w1 w.heap.size 34 #[.int .i64 aKind, .slice aANums aNums.length acNums, .slice aATexts aTexts.length acTexts] := ((Blk.new w _ _).alloc _).keep hb1
  have hc0 := BK0.cell
  have hf0 := BK0.frozen
  have BK1 : Blk w1 (w.heap.size + 1) 34 #[.int .i64 bKind, .slice bANums bNums.length bcNums, .slice bATexts bTexts.length bcTexts] := Blk.keep (Blk.new' (by simp)) hb1
  have hc1 := BK1.cell
  have hf1 := BK1.frozen
  by_cases hs : leftOf 1048576 (aNums.length + (aTexts.length + strSum aTexts)) < 0
  · go_wp2
    go_ret
    exact ⟨rfl, by (repeat (first | (with_reducible exact Below.refl _ _) | (with_reducible assumption) | ((with_reducible refine Below.setCell ?_ ?_ _); rotate_left; focus (first | omega | (simp; done) | (simp; omega))) | ((with_reducible refine Below.alloc ?_ ?_ _); rotate_left; focus (first | omega | (simp; done) | (simp; omega))) | (with_reducible refine Below.drew ?_) | (with_reducible refine below_drewN ?_ _) | (refine Below.trans ?_ (Below.mono (by with_reducible assumption) (by (first | omega | (simp; done) | (simp; omega)))))))⟩
  · go_wp2_with fail
    refine (laws_szRecord _ _ _ _ _ _ _ _ _ hm0bNums hm0bTexts (hrbTexts.keep (by (repeat (first | (with_reducible exact Below.refl _ _) | (with_reducible assumption) | ((with_reducible refine Below.setCell ?_ ?_ _); rotate_left; focus (first | omega | (simp; done) | (simp; omega))) | ((with_reducible refine Below.alloc ?_ ?_ _); rotate_left; focus (first | omega | (simp; done) | (simp; omega))) | (with_reducible refine Below.drew ?_) | (with_reducible refine below_drewN ?_ _) | (refine Below.trans ?_ (Below.mono (by with_reducible assumption) (by (first | omega | (simp; done) | (simp; omega)))))))) (by first | omega | (simp; done) | (simp; omega))) hsbTexts (leftOf_bd (Int.le_refl _)).1 (leftOf_bd (Int.le_refl _)).2).mono ?_
    rintro e w2 ⟨rfl, hb2⟩
    have hz2 := hb2.size; try simp at hz2
    replace BK0 := BK0.keep hb2; replace hc0 := BK0.cell; replace hf0 := BK0.frozen
    replace BK1 := BK1.keep hb2; replace hc1 := BK1.cell; replace hf1 := BK1.frozen
    by_cases hs2 : leftOf (leftOf 1048576 (aNums.length + (aTexts.length + strSum aTexts))) (bNums.length + (bTexts.length + strSum bTexts)) < 0
    · go_wp2
      go_ret
      exact ⟨rfl, by (repeat (first | (with_reducible exact Below.refl _ _) | (with_reducible assumption) | ((with_reducible refine Below.setCell ?_ ?_ _); rotate_left; focus (first | omega | (simp; done) | (simp; omega))) | ((with_reducible refine Below.alloc ?_ ?_ _); rotate_left; focus (first | omega | (simp; done) | (simp; omega))) | (with_reducible refine Below.drew ?_) | (with_reducible refine below_drewN ?_ _) | (refine Below.trans ?_ (Below.mono (by with_reducible assumption) (by (first | omega | (simp; done) | (simp; omega)))))))⟩
    · have hs1 := leftOf_le (l := 1048576) (n := aNums.length + (aTexts.length + strSum aTexts)) (by omega)
      have hs3 := leftOf_le (l := leftOf 1048576 (aNums.length + (aTexts.length + strSum aTexts))) (n := bNums.length + (bTexts.length + strSum bTexts)) (by omega)
      have hs4 := (leftOf_bd (l := 1048576) (n := aNums.length + (aTexts.length + strSum aTexts)) (Int.le_refl _)).2
      have hmaNums : aNums.length ≤ 1048576 := by omega
      have hmaTexts : aTexts.length ≤ 1048576 := by omega
      have hmbNums : bNums.length ≤ 1048576 := by omega
      have hmbTexts : bTexts.length ≤ 1048576 := by omega
      clear hs1 hs3 hs4 hm0aNums hm0aTexts hm0bNums hm0bTexts
      have HTa := Lib.hid (fun (w' : World) (hb : Below w.heap.size w w') => laws_toRecord aKind aANums acNums aNums aATexts acTexts aTexts w' (hraNums.keep hb hb.size) (hraTexts.keep hb hb.size) hmaNums hmaTexts)
      have HTb := Lib.hid (fun (w' : World) (hb : Below w.heap.size w w') => laws_toRecord bKind bANums bcNums bNums bATexts bcTexts bTexts w' (hrbNums.keep hb hb.size) (hrbTexts.keep hb hb.size) hmbNums hmbTexts)
      go_wp2_with fail
      go_region_held3 (fun w' => w'.cell? ⟨w.heap.size, 0, none⟩ = some (.int .i64 aKind) ∧ w'.cell? ⟨w.heap.size, 1, none⟩ = some (.slice aANums aNums.length acNums) ∧ w'.cell? ⟨w.heap.size, 2, none⟩ = some (.slice aATexts aTexts.length acTexts) ∧ w'.cell? ⟨w.heap.size + 1, 0, none⟩ = some (.int .i64 bKind) ∧ w'.cell? ⟨w.heap.size + 1, 1, none⟩ = some (.slice bANums bNums.length bcNums) ∧ w'.cell? ⟨w.heap.size + 1, 2, none⟩ = some (.slice bATexts bTexts.length bcTexts))
        (first | exact ⟨BK0.cell 0, BK0.cell 1, BK0.cell 2, BK1.cell 0, BK1.cell 1, BK1.cell 2⟩ | exact ⟨BK0'.cell 0, BK0'.cell 1, BK0'.cell 2, BK1'.cell 0, BK1'.cell 1, BK1'.cell 2⟩ | exact ⟨BK0''.cell 0, BK0''.cell 1, BK0''.cell 2, BK1''.cell 0, BK1''.cell 1, BK1''.cell 2⟩ | exact ⟨BK0'''.cell 0, BK0'''.cell 1, BK0'''.cell 2, BK1'''.cell 0, BK1'''.cell 1, BK1'''.cell 2⟩)
        (first
        | (go_at_call 19; ((with_reducible refine (HTa.out _ ?_).mono ?_); (focus (repeat (first | (with_reducible exact Below.refl _ _) | (with_reducible assumption) | ((with_reducible refine Below.setCell ?_ ?_ _); rotate_left; focus (first | omega | (simp; done) | (simp; omega))) | ((with_reducible refine Below.alloc ?_ ?_ _); rotate_left; focus (first | omega | (simp; done) | (simp; omega))) | (with_reducible refine Below.drew ?_) | (with_reducible refine below_drewN ?_ _) | (refine Below.trans ?_ (Below.mono (by with_reducible assumption) (by (first | omega | (simp; done) | (simp; omega))))))))); rintro e w3 ⟨A3_Nums, c3_Nums, A3_Texts, c3_Texts, B3_1, rfl, ho3_Nums, ho3_Texts, -, -, hb3⟩; have BK0' := BK0.drew.keep hb3; have BK1' := BK1.drew.keep hb3; have hz3 := hb3.size; try simp at hz3)
        | (go_at_call 19; ((with_reducible refine (HTb.out _ ?_).mono ?_); (focus (repeat (first | (with_reducible exact Below.refl _ _) | (with_reducible assumption) | ((with_reducible refine Below.setCell ?_ ?_ _); rotate_left; focus (first | omega | (simp; done) | (simp; omega))) | ((with_reducible refine Below.alloc ?_ ?_ _); rotate_left; focus (first | omega | (simp; done) | (simp; omega))) | (with_reducible refine Below.drew ?_) | (with_reducible refine below_drewN ?_ _) | (refine Below.trans ?_ (Below.mono (by with_reducible assumption) (by (first | omega | (simp; done) | (simp; omega))))))))); rintro e w4 ⟨A4_Nums, c4_Nums, A4_Texts, c4_Texts, B4_1, rfl, ho4_Nums, ho4_Texts, -, -, hb4⟩; have BK0'' := BK0'.keep hb4; have BK1'' := BK1'.keep hb4; have hz4 := hb4.size; try simp at hz4)
        | (go_at_call 18; refine (spec_SameRecord aKind A3_Nums c3_Nums aNums A3_Texts c3_Texts aTexts bKind A4_Nums c4_Nums bNums A4_Texts c4_Texts bTexts _ (Reads.of_own (own_below ho3_Nums hb4)) (Reads.of_own (own_below ho3_Texts hb4)) (Reads.of_own ho4_Nums) (Reads.of_own ho4_Texts) (by omega) (by omega) (by omega) (by omega)).mono ?_; rintro e w5 ⟨rfl, hb5⟩; have BK0''' := BK0''.keep hb5; have BK1''' := BK1''.keep hb5; have hz5 := hb5.size; try simp at hz5))
      replace BK0 := BK0'''
      replace hc0 := BK0.cell
      replace hf0 := BK0.frozen
      replace BK1 := BK1'''
      replace hc1 := BK1.cell
      replace hf1 := BK1.frozen
      go_wp2_with fail
      refine (laws_toRecord _ _ _ _ _ _ _ _ (hraNums.keep (by (repeat (first | (with_reducible exact Below.refl _ _) | (with_reducible assumption) | ((with_reducible refine Below.setCell ?_ ?_ _); rotate_left; focus (first | omega | (simp; done) | (simp; omega))) | ((with_reducible refine Below.alloc ?_ ?_ _); rotate_left; focus (first | omega | (simp; done) | (simp; omega))) | (with_reducible refine Below.drew ?_) | (with_reducible refine below_drewN ?_ _) | (refine Below.trans ?_ (Below.mono (by with_reducible assumption) (by (first | omega | (simp; done) | (simp; omega)))))))) (by first | omega | (simp; done) | (simp; omega))) (hraTexts.keep (by (repeat (first | (with_reducible exact Below.refl _ _) | (with_reducible assumption) | ((with_reducible refine Below.setCell ?_ ?_ _); rotate_left; focus (first | omega | (simp; done) | (simp; omega))) | ((with_reducible refine Below.alloc ?_ ?_ _); rotate_left; focus (first | omega | (simp; done) | (simp; omega))) | (with_reducible refine Below.drew ?_) | (with_reducible refine below_drewN ?_ _) | (refine Below.trans ?_ (Below.mono (by with_reducible assumption) (by (first | omega | (simp; done) | (simp; omega)))))))) (by first | omega | (simp; done) | (simp; omega))) hmaNums hmaTexts).mono ?_
      rintro e w6 ⟨A6_Nums, c6_Nums, A6_Texts, c6_Texts, B6_1, rfl, ho6_Nums, ho6_Texts, -, -, hb6⟩
      have hz6 := hb6.size; try simp at hz6
      replace BK0 := BK0.keep hb6; replace hc0 := BK0.cell; replace hf0 := BK0.frozen
      replace BK1 := BK1.keep hb6; replace hc1 := BK1.cell; replace hf1 := BK1.frozen
      have hz68 : w.heap.size + 1 < w6.heap.size := by omega
      replace BK0 := BK0.alloc (.cells #[.int .i64 aKind, .slice A6_Nums aNums.length c6_Nums, .slice A6_Texts aTexts.length c6_Texts] 37)
      replace hc0 := BK0.cell
      replace hf0 := BK0.frozen
      replace BK1 := BK1.alloc (.cells #[.int .i64 aKind, .slice A6_Nums aNums.length c6_Nums, .slice A6_Texts aTexts.length c6_Texts] 37)
      replace hc1 := BK1.cell
      replace hf1 := BK1.frozen
      go_wp2_with fail
      refine (laws_toRecord _ _ _ _ _ _ _ _ (hrbNums.keep (by (repeat (first | (with_reducible exact Below.refl _ _) | (with_reducible assumption) | ((with_reducible refine Below.setCell ?_ ?_ _); rotate_left; focus (first | omega | (simp; done) | (simp; omega))) | ((with_reducible refine Below.alloc ?_ ?_ _); rotate_left; focus (first | omega | (simp; done) | (simp; omega))) | (with_reducible refine Below.drew ?_) | (with_reducible refine below_drewN ?_ _) | (refine Below.trans ?_ (Below.mono (by with_reducible assumption) (by (first | omega | (simp; done) | (simp; omega)))))))) (by first | omega | (simp; done) | (simp; omega))) (hrbTexts.keep (by (repeat (first | (with_reducible exact Below.refl _ _) | (with_reducible assumption) | ((with_reducible refine Below.setCell ?_ ?_ _); rotate_left; focus (first | omega | (simp; done) | (simp; omega))) | ((with_reducible refine Below.alloc ?_ ?_ _); rotate_left; focus (first | omega | (simp; done) | (simp; omega))) | (with_reducible refine Below.drew ?_) | (with_reducible refine below_drewN ?_ _) | (refine Below.trans ?_ (Below.mono (by with_reducible assumption) (by (first | omega | (simp; done) | (simp; omega)))))))) (by first | omega | (simp; done) | (simp; omega))) hmbNums hmbTexts).mono ?_
      rintro e w7 ⟨A7_Nums, c7_Nums, A7_Texts, c7_Texts, B7_1, rfl, ho7_Nums, ho7_Texts, -, -, hb7⟩
      have hz7 := hb7.size; try simp at hz7
      replace BK0 := BK0.keep hb7; replace hc0 := BK0.cell; replace hf0 := BK0.frozen
      replace BK1 := BK1.keep hb7; replace hc1 := BK1.cell; replace hf1 := BK1.frozen
      have BK2 := (Blk.new w6 _ _).keep hb7; have hc2 := BK2.cell; have hf2 := BK2.frozen
      replace ho6_Nums := (own_below (ho6_Nums.alloc (.cells #[.int .i64 aKind, .slice A6_Nums aNums.length c6_Nums, .slice A6_Texts aTexts.length c6_Texts] 37)) hb7).alloc (.cells #[.int .i64 bKind, .slice A7_Nums bNums.length c7_Nums, .slice A7_Texts bTexts.length c7_Texts] 37)
      replace ho7_Nums := ho7_Nums.alloc (.cells #[.int .i64 bKind, .slice A7_Nums bNums.length c7_Nums, .slice A7_Texts bTexts.length c7_Texts] 37)
      replace ho6_Texts := (own_below (ho6_Texts.alloc (.cells #[.int .i64 aKind, .slice A6_Nums aNums.length c6_Nums, .slice A6_Texts aTexts.length c6_Texts] 37)) hb7).alloc (.cells #[.int .i64 bKind, .slice A7_Nums bNums.length c7_Nums, .slice A7_Texts bTexts.length c7_Texts] 37)
      replace ho7_Texts := ho7_Texts.alloc (.cells #[.int .i64 bKind, .slice A7_Nums bNums.length c7_Nums, .slice A7_Texts bTexts.length c7_Texts] 37)
      have hz78 : w6.heap.size < w7.heap.size := by omega
      replace BK0 := BK0.alloc (.cells #[.int .i64 bKind, .slice A7_Nums bNums.length c7_Nums, .slice A7_Texts bTexts.length c7_Texts] 37)
      replace hc0 := BK0.cell
      replace hf0 := BK0.frozen
      replace BK1 := BK1.alloc (.cells #[.int .i64 bKind, .slice A7_Nums bNums.length c7_Nums, .slice A7_Texts bTexts.length c7_Texts] 37)
      replace hc1 := BK1.cell
      replace hf1 := BK1.frozen
      replace BK2 := BK2.alloc (.cells #[.int .i64 bKind, .slice A7_Nums bNums.length c7_Nums, .slice A7_Texts bTexts.length c7_Texts] 37)
      replace hc2 := BK2.cell
      replace hf2 := BK2.frozen
      go_wp2_with fail
      refine (impl_SameRecord aKind A6_Nums c6_Nums aNums A6_Texts c6_Texts aTexts bKind A7_Nums c7_Nums bNums A7_Texts c7_Texts bTexts _ (Reads.of_own ho6_Nums) (Reads.of_own ho6_Texts) (Reads.of_own ho7_Nums) (Reads.of_own ho7_Texts) (by omega) (by omega) (by omega) (by omega)).mono ?_
      rintro e w8 ⟨rfl, hb8⟩
      have hz8 := hb8.size; try simp at hz8
      replace BK0 := BK0.keep hb8; replace hc0 := BK0.cell; replace hf0 := BK0.frozen
      replace BK1 := BK1.keep hb8; replace hc1 := BK1.cell; replace hf1 := BK1.frozen
      replace BK2 := BK2.keep hb8; replace hc2 := BK2.cell; replace hf2 := BK2.frozen
      have BK3 := (Blk.new w7 _ _).keep hb8; have hc3 := BK3.cell; have hf3 := BK3.frozen
      replace ho6_Nums := own_below ho6_Nums hb8
      replace ho7_Nums := own_below ho7_Nums hb8
      replace ho6_Texts := own_below ho6_Texts hb8
      replace ho7_Texts := own_below ho7_Texts hb8
      go_wp2_with fail
      go_region_held3 (fun w' => w'.cell? ⟨w.heap.size, 0, none⟩ = some (.int .i64 aKind) ∧ w'.cell? ⟨w.heap.size, 1, none⟩ = some (.slice aANums aNums.length acNums) ∧ w'.cell? ⟨w.heap.size, 2, none⟩ = some (.slice aATexts aTexts.length acTexts) ∧ w'.cell? ⟨w6.heap.size, 0, none⟩ = some (.int .i64 aKind) ∧ w'.cell? ⟨w6.heap.size, 1, none⟩ = some (.slice A6_Nums aNums.length c6_Nums) ∧ w'.cell? ⟨w6.heap.size, 2, none⟩ = some (.slice A6_Texts aTexts.length c6_Texts))
        (first | exact ⟨BK0.cell 0, BK0.cell 1, BK0.cell 2, BK2.cell 0, BK2.cell 1, BK2.cell 2⟩ | exact ⟨BK0'.cell 0, BK0'.cell 1, BK0'.cell 2, BK2'.cell 0, BK2'.cell 1, BK2'.cell 2⟩ | exact ⟨BK0''.cell 0, BK0''.cell 1, BK0''.cell 2, BK2''.cell 0, BK2''.cell 1, BK2''.cell 2⟩)
        (first
        | (go_at_call 19; ((with_reducible refine (HTa.out _ ?_).mono ?_); (focus (repeat (first | (with_reducible exact Below.refl _ _) | (with_reducible assumption) | ((with_reducible refine Below.setCell ?_ ?_ _); rotate_left; focus (first | omega | (simp; done) | (simp; omega))) | ((with_reducible refine Below.alloc ?_ ?_ _); rotate_left; focus (first | omega | (simp; done) | (simp; omega))) | (with_reducible refine Below.drew ?_) | (with_reducible refine below_drewN ?_ _) | (refine Below.trans ?_ (Below.mono (by with_reducible assumption) (by (first | omega | (simp; done) | (simp; omega))))))))); rintro e w9 ⟨A9_Nums, c9_Nums, A9_Texts, c9_Texts, B9_1, rfl, ho9_Nums, ho9_Texts, -, -, hb9⟩; have BK0' := BK0.drew.keep hb9; have BK1' := BK1.drew.keep hb9; have BK2' := BK2.drew.keep hb9; have BK3' := BK3.drew.keep hb9; have hz9 := hb9.size; try simp at hz9)
        | (go_at_call 21; refine (laws_eqRecord _ _ _ _ _ _ _ _ _ _ _ _ _ _ _ (Reads.of_own (own_below ho6_Nums.drew hb9)) (Reads.of_own (own_below ho6_Texts.drew hb9)) (Reads.of_own ho9_Nums) (Reads.of_own ho9_Texts) (by omega) (by omega) (by omega) (by omega)).mono ?_; rintro e w10 ⟨rfl, hb10⟩; have BK0'' := BK0'.keep hb10; have BK1'' := BK1'.keep hb10; have BK2'' := BK2'.keep hb10; have BK3'' := BK3'.keep hb10; have hz10 := hb10.size; try simp at hz10))
      replace BK0 := BK0''
      replace hc0 := BK0.cell
      replace hf0 := BK0.frozen
      replace BK1 := BK1''
      replace hc1 := BK1.cell
      replace hf1 := BK1.frozen
      replace BK2 := BK2''
      replace hc2 := BK2.cell
      replace hf2 := BK2.frozen
      replace BK3 := BK3''
      replace hc3 := BK3.cell
      replace hf3 := BK3.frozen
      replace ho7_Nums := own_below (own_below ho7_Nums.drew hb9) hb10
      replace ho7_Texts := own_below (own_below ho7_Texts.drew hb9) hb10
      go_wp2_with fail
      go_region_held3 (fun w' => w'.cell? ⟨w.heap.size + 1, 0, none⟩ = some (.int .i64 bKind) ∧ w'.cell? ⟨w.heap.size + 1, 1, none⟩ = some (.slice bANums bNums.length bcNums) ∧ w'.cell? ⟨w.heap.size + 1, 2, none⟩ = some (.slice bATexts bTexts.length bcTexts) ∧ w'.cell? ⟨w7.heap.size, 0, none⟩ = some (.int .i64 bKind) ∧ w'.cell? ⟨w7.heap.size, 1, none⟩ = some (.slice A7_Nums bNums.length c7_Nums) ∧ w'.cell? ⟨w7.heap.size, 2, none⟩ = some (.slice A7_Texts bTexts.length c7_Texts))
        (first | exact ⟨BK1.cell 0, BK1.cell 1, BK1.cell 2, BK3.cell 0, BK3.cell 1, BK3.cell 2⟩ | exact ⟨BK1_1.cell 0, BK1_1.cell 1, BK1_1.cell 2, BK3_1.cell 0, BK3_1.cell 1, BK3_1.cell 2⟩ | exact ⟨BK1_2.cell 0, BK1_2.cell 1, BK1_2.cell 2, BK3_2.cell 0, BK3_2.cell 1, BK3_2.cell 2⟩)
        (first
        | (go_at_call 19; ((with_reducible refine (HTb.out _ ?_).mono ?_); (focus (repeat (first | (with_reducible exact Below.refl _ _) | (with_reducible assumption) | ((with_reducible refine Below.setCell ?_ ?_ _); rotate_left; focus (first | omega | (simp; done) | (simp; omega))) | ((with_reducible refine Below.alloc ?_ ?_ _); rotate_left; focus (first | omega | (simp; done) | (simp; omega))) | (with_reducible refine Below.drew ?_) | (with_reducible refine below_drewN ?_ _) | (refine Below.trans ?_ (Below.mono (by with_reducible assumption) (by (first | omega | (simp; done) | (simp; omega))))))))); rintro e w11 ⟨A11_Nums, c11_Nums, A11_Texts, c11_Texts, B11_1, rfl, ho11_Nums, ho11_Texts, -, -, hb11⟩; have BK0_1 := BK0.drew.keep hb11; have BK1_1 := BK1.drew.keep hb11; have BK2_1 := BK2.drew.keep hb11; have BK3_1 := BK3.drew.keep hb11; have hz11 := hb11.size; try simp at hz11)
        | (go_at_call 21; refine (laws_eqRecord _ _ _ _ _ _ _ _ _ _ _ _ _ _ _ (Reads.of_own (own_below ho7_Nums.drew hb11)) (Reads.of_own (own_below ho7_Texts.drew hb11)) (Reads.of_own ho11_Nums) (Reads.of_own ho11_Texts) (by omega) (by omega) (by omega) (by omega)).mono ?_; rintro e w12 ⟨rfl, hb12⟩; have BK0_2 := BK0_1.keep hb12; have BK1_2 := BK1_1.keep hb12; have BK2_2 := BK2_1.keep hb12; have BK3_2 := BK3_1.keep hb12))
      go_wp2
      go_ret
      exact ⟨rfl, by (repeat (first | (with_reducible exact Below.refl _ _) | (with_reducible assumption) | ((with_reducible refine Below.setCell ?_ ?_ _); rotate_left; focus (first | omega | (simp; done) | (simp; omega))) | ((with_reducible refine Below.alloc ?_ ?_ _); rotate_left; focus (first | omega | (simp; done) | (simp; omega))) | (with_reducible refine Below.drew ?_) | (with_reducible refine below_drewN ?_ _) | (refine Below.trans ?_ (Below.mono (by with_reducible assumption) (by (first | omega | (simp; done) | (simp; omega)))))))⟩
end Go.Proofs.Ytollfgpheonakaa

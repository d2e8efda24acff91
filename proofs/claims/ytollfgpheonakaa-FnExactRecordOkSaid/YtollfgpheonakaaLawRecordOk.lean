/- FnExactRecordOk: the walk of the law. -/
import Derived.Test.YtollfgpheonakaaSpecRecord
namespace Go.Proofs.Ytollfgpheonakaa
open Go.RowKit
set_option maxHeartbeats 1600000 in
theorem law_FnExactRecordOk (aKind : Int) (aANums : Option Addr) (acNums : Nat) (aNums : List Int) (aATexts : Option Addr) (acTexts : Nat) (aTexts : List ByteArray)  (w : World) (hraNums : Reads w w.heap.size aANums (aNums.map intV)) (hraTexts : Reads w w.heap.size aATexts (aTexts.map strV)) (hm0Nums : aNums.length ≤ 9223372036854775807) (hm0Texts : aTexts.length ≤ 9223372036854775807) (hsaTexts : ∀ s ∈ aTexts, s.size ≤ 9223372036854775807) :
    Calls Try.prog 6 #[.agg #[.int .i64 aKind, .slice aANums aNums.length acNums, .slice aATexts aTexts.length acTexts]] w fun e w' => e = .returned (.bool true) ∧ Below w.heap.size w w' := by
  go_enter Try.func6, Try.ntmps6
  go_wp2_with fail
  refine (laws_szRecord _ _ _ _ _ _ _ _ _ hm0Nums hm0Texts (hraTexts.keep (by (repeat (first | (with_reducible exact Below.refl _ _) | (with_reducible assumption) | ((with_reducible refine Below.setCell ?_ ?_ _); rotate_left; focus (first | omega | (simp; done) | (simp; omega))) | ((with_reducible refine Below.alloc ?_ ?_ _); rotate_left; focus (first | omega | (simp; done) | (simp; omega))) | (with_reducible refine Below.drew ?_) | (with_reducible refine below_drewN ?_ _) | (refine Below.trans ?_ (Below.mono (by with_reducible assumption) (by (first | omega | (simp; done) | (simp; omega)))))))) (by first | omega | (simp; done) | (simp; omega))) hsaTexts (by first | omega | (simp; done) | (simp; omega)) (by first | omega | (simp; done) | (simp; omega))).mono ?_
  rintro e w1 ⟨rfl, hb1⟩
  have hz1 := hb1.size; try simp at hz1
  have BK0 := (Blk.new w _ _).keep hb1; have hc0 := BK0.cell; have hf0 := BK0.frozen
  by_cases hs : leftOf 1048576 (aNums.length + (aTexts.length + strSum aTexts)) < 0
  · go_wp2
    go_ret
    exact ⟨rfl, by (repeat (first | (with_reducible exact Below.refl _ _) | (with_reducible assumption) | ((with_reducible refine Below.setCell ?_ ?_ _); rotate_left; focus (first | omega | (simp; done) | (simp; omega))) | ((with_reducible refine Below.alloc ?_ ?_ _); rotate_left; focus (first | omega | (simp; done) | (simp; omega))) | (with_reducible refine Below.drew ?_) | (with_reducible refine below_drewN ?_ _) | (refine Below.trans ?_ (Below.mono (by with_reducible assumption) (by (first | omega | (simp; done) | (simp; omega)))))))⟩
  · have hs' := leftOf_le (Int.not_lt.1 hs)
    have hmNums : aNums.length ≤ 1048576 := by omega
    have hmTexts : aTexts.length ≤ 1048576 := by omega
    clear hs' hm0Nums hm0Texts
    go_wp2_with fail
    refine (laws_toRecord _ _ _ _ _ _ _ _ (hraNums.keep (by (repeat (first | (with_reducible exact Below.refl _ _) | (with_reducible assumption) | ((with_reducible refine Below.setCell ?_ ?_ _); rotate_left; focus (first | omega | (simp; done) | (simp; omega))) | ((with_reducible refine Below.alloc ?_ ?_ _); rotate_left; focus (first | omega | (simp; done) | (simp; omega))) | (with_reducible refine Below.drew ?_) | (with_reducible refine below_drewN ?_ _) | (refine Below.trans ?_ (Below.mono (by with_reducible assumption) (by (first | omega | (simp; done) | (simp; omega)))))))) (by first | omega | (simp; done) | (simp; omega))) (hraTexts.keep (by (repeat (first | (with_reducible exact Below.refl _ _) | (with_reducible assumption) | ((with_reducible refine Below.setCell ?_ ?_ _); rotate_left; focus (first | omega | (simp; done) | (simp; omega))) | ((with_reducible refine Below.alloc ?_ ?_ _); rotate_left; focus (first | omega | (simp; done) | (simp; omega))) | (with_reducible refine Below.drew ?_) | (with_reducible refine below_drewN ?_ _) | (refine Below.trans ?_ (Below.mono (by with_reducible assumption) (by (first | omega | (simp; done) | (simp; omega)))))))) (by first | omega | (simp; done) | (simp; omega))) hmNums hmTexts).mono ?_
    rintro e w2 ⟨A2_Nums, c2_Nums, A2_Texts, c2_Texts, B2_1, rfl, ho2_Nums, ho2_Texts, -, -, hb2⟩
    have hz2 := hb2.size; try simp at hz2
    replace BK0 := BK0.keep hb2; replace hc0 := BK0.cell; replace hf0 := BK0.frozen
    go_wp2_with fail
    refine (spec_RecordOk aKind A2_Nums c2_Nums aNums A2_Texts c2_Texts aTexts _ (Reads.of_own ho2_Nums) (Reads.of_own ho2_Texts) (by omega) (by omega)).mono ?_
    rintro e w3 ⟨rfl, hb3⟩
    have hz3 := hb3.size; try simp at hz3
    replace BK0 := BK0.keep hb3; replace hc0 := BK0.cell; replace hf0 := BK0.frozen
    go_wp2_with fail
    refine (laws_toRecord _ _ _ _ _ _ _ _ (hraNums.keep (by (repeat (first | (with_reducible exact Below.refl _ _) | (with_reducible assumption) | ((with_reducible refine Below.setCell ?_ ?_ _); rotate_left; focus (first | omega | (simp; done) | (simp; omega))) | ((with_reducible refine Below.alloc ?_ ?_ _); rotate_left; focus (first | omega | (simp; done) | (simp; omega))) | (with_reducible refine Below.drew ?_) | (with_reducible refine below_drewN ?_ _) | (refine Below.trans ?_ (Below.mono (by with_reducible assumption) (by (first | omega | (simp; done) | (simp; omega)))))))) (by first | omega | (simp; done) | (simp; omega))) (hraTexts.keep (by (repeat (first | (with_reducible exact Below.refl _ _) | (with_reducible assumption) | ((with_reducible refine Below.setCell ?_ ?_ _); rotate_left; focus (first | omega | (simp; done) | (simp; omega))) | ((with_reducible refine Below.alloc ?_ ?_ _); rotate_left; focus (first | omega | (simp; done) | (simp; omega))) | (with_reducible refine Below.drew ?_) | (with_reducible refine below_drewN ?_ _) | (refine Below.trans ?_ (Below.mono (by with_reducible assumption) (by (first | omega | (simp; done) | (simp; omega)))))))) (by first | omega | (simp; done) | (simp; omega))) hmNums hmTexts).mono ?_
    rintro e w4 ⟨A4_Nums, c4_Nums, A4_Texts, c4_Texts, B4_1, rfl, ho4_Nums, ho4_Texts, -, -, hb4⟩
    have hz4 := hb4.size; try simp at hz4
    replace BK0 := BK0.keep hb4; replace hc0 := BK0.cell; replace hf0 := BK0.frozen
    replace BK0 := BK0.alloc (.cells #[.int .i64 aKind, .slice A4_Nums aNums.length c4_Nums, .slice A4_Texts aTexts.length c4_Texts] 37)
    go_wp2_with fail
    refine (impl_RecordOk aKind A4_Nums c4_Nums aNums A4_Texts c4_Texts aTexts _ (Reads.of_own (ho4_Nums.alloc _)) (Reads.of_own (ho4_Texts.alloc _)) (by omega) (by omega)).mono ?_
    rintro e w5 ⟨rfl, hb5⟩
    have hz5 := hb5.size; try simp at hz5
    replace BK0 := BK0.keep hb5; replace hc0 := BK0.cell; replace hf0 := BK0.frozen
    have BK1 := (Blk.new w4 _ _).keep hb5; have hc1 := BK1.cell; have hf1 := BK1.frozen
    go_wp2_with fail
    replace ho4_Nums := own_below (ho4_Nums.alloc (.cells #[.int .i64 aKind, .slice A4_Nums aNums.length c4_Nums, .slice A4_Texts aTexts.length c4_Texts] 37)) hb5
    replace ho4_Texts := own_below (ho4_Texts.alloc (.cells #[.int .i64 aKind, .slice A4_Nums aNums.length c4_Nums, .slice A4_Texts aTexts.length c4_Texts] 37)) hb5
    have hz45 : w.heap.size < w5.heap.size := by omega
    go_region_held3 (fun w' => w'.cell? ⟨w.heap.size, 0, none⟩ = some (.int .i64 aKind) ∧ w'.cell? ⟨w.heap.size, 1, none⟩ = some (.slice aANums aNums.length acNums) ∧ w'.cell? ⟨w.heap.size, 2, none⟩ = some (.slice aATexts aTexts.length acTexts) ∧ w'.cell? ⟨w4.heap.size, 0, none⟩ = some (.int .i64 aKind) ∧ w'.cell? ⟨w4.heap.size, 1, none⟩ = some (.slice A4_Nums aNums.length c4_Nums) ∧ w'.cell? ⟨w4.heap.size, 2, none⟩ = some (.slice A4_Texts aTexts.length c4_Texts))
      (first | exact ⟨BK0.cell 0, BK0.cell 1, BK0.cell 2, BK1.cell 0, BK1.cell 1, BK1.cell 2⟩ | exact ⟨BK0'.cell 0, BK0'.cell 1, BK0'.cell 2, BK1'.cell 0, BK1'.cell 1, BK1'.cell 2⟩ | exact ⟨BK0''.cell 0, BK0''.cell 1, BK0''.cell 2, BK1''.cell 0, BK1''.cell 1, BK1''.cell 2⟩)
      (first
      | (go_at_call 19; refine (laws_toRecord _ _ _ _ _ _ _ _ (hraNums.keep (by (repeat (first | (with_reducible exact Below.refl _ _) | (with_reducible assumption) | ((with_reducible refine Below.setCell ?_ ?_ _); rotate_left; focus (first | omega | (simp; done) | (simp; omega))) | ((with_reducible refine Below.alloc ?_ ?_ _); rotate_left; focus (first | omega | (simp; done) | (simp; omega))) | (with_reducible refine Below.drew ?_) | (with_reducible refine below_drewN ?_ _) | (refine Below.trans ?_ (Below.mono (by with_reducible assumption) (by (first | omega | (simp; done) | (simp; omega)))))))) (by first | omega | (simp; done) | (simp; omega))) (hraTexts.keep (by (repeat (first | (with_reducible exact Below.refl _ _) | (with_reducible assumption) | ((with_reducible refine Below.setCell ?_ ?_ _); rotate_left; focus (first | omega | (simp; done) | (simp; omega))) | ((with_reducible refine Below.alloc ?_ ?_ _); rotate_left; focus (first | omega | (simp; done) | (simp; omega))) | (with_reducible refine Below.drew ?_) | (with_reducible refine below_drewN ?_ _) | (refine Below.trans ?_ (Below.mono (by with_reducible assumption) (by (first | omega | (simp; done) | (simp; omega)))))))) (by first | omega | (simp; done) | (simp; omega))) hmNums hmTexts).mono ?_; rintro e w6 ⟨A6_Nums, c6_Nums, A6_Texts, c6_Texts, B6_1, rfl, ho6_Nums, ho6_Texts, -, -, hb6⟩; have BK0' := BK0.drew.keep hb6; have BK1' := BK1.drew.keep hb6; have hz6 := hb6.size; try simp at hz6)
      | (go_at_call 21; refine (laws_eqRecord _ _ _ _ _ _ _ _ _ _ _ _ _ _ _ (Reads.of_own (own_below ho4_Nums.drew hb6)) (Reads.of_own (own_below ho4_Texts.drew hb6)) (Reads.of_own ho6_Nums) (Reads.of_own ho6_Texts) (by omega) (by omega) (by omega) (by omega)).mono ?_; rintro e w7 ⟨rfl, hb7⟩; have BK0'' := BK0'.keep hb7; have BK1'' := BK1'.keep hb7))
    go_wp2
    go_ret
    exact ⟨rfl, by (repeat (first | (with_reducible exact Below.refl _ _) | (with_reducible assumption) | ((with_reducible refine Below.setCell ?_ ?_ _); rotate_left; focus (first | omega | (simp; done) | (simp; omega))) | ((with_reducible refine Below.alloc ?_ ?_ _); rotate_left; focus (first | omega | (simp; done) | (simp; omega))) | (with_reducible refine Below.drew ?_) | (with_reducible refine below_drewN ?_ _) | (refine Below.trans ?_ (Below.mono (by with_reducible assumption) (by (first | omega | (simp; done) | (simp; omega)))))))⟩
end Go.Proofs.Ytollfgpheonakaa

/- impl.decodeRecord: the walk (printed by wip/gen/gendec.py). -/
import Derived.Test.YtndgaakfndokgaaDecLib
set_option linter.unusedSimpArgs false
set_option linter.unusedVariables false
set_option maxRecDepth 20000
namespace Go.Proofs.Ytndgaakfndokgaa
open Go.RowKit
set_option maxRecDepth 20000 in
set_option maxHeartbeats 3200000 in
theorem impl_decodeRecord (v_b : Value) (b : List UInt8) (w : World) (hr_b : SlRd byteR w w.heap.size v_b b) (hm_b : szList byteR b ≤ 1048576) :
    Calls Try.prog 31 #[v_b] w fun e w' => ∃ cs', e = .returned (.tuple #[.agg cs'.toArray, .bool (decOk b)]) ∧ RecordR.Own w' (InR w.heap.size w'.heap.size) cs' (decR b) ∧ Below w.heap.size w w' := by
  obtain ⟨A, c, rfl⟩ := hr_b.form
  obtain ⟨-, hr, hc, hc2⟩ := rd_ByteS hr_b
  rw [sz_ByteS] at hm_b
  obtain ⟨i0, hi0, hI0, hI1, hI2⟩ := info_parts info_int
  obtain ⟨j0, hj0, hJ0, hJ1, hJ2⟩ := info_parts info_string
  have HNone : Hid (dec true b = none → decOk b = false ∧ decR b = ⟨0, [], []⟩) := Lib.hid (dec_none true)
  have HSome : Hid (∀ r, dec true b = some r → decOk b = true ∧ decR b = r) := Lib.hid (fun r => dec_some true)
  generalize decOk b = OK at *
  generalize decR b = RR at *
  have HT : Hid (∀ i x e ok, takeAt b i = (x, e, ok) → ∀ wr, Below w.heap.size w wr → Calls Try.prog 50 #[.slice A b.length c, .int .i64 i] wr fun ee w' => ee = .returned (.tuple #[.int .i64 x, .int .i64 e, .bool ok]) ∧ Below wr.heap.size wr w') := Lib.hid (by
    intro i x e ok h wr hbw
    have h1 := impl_takeNum A c b i wr (hr.keep hbw hbw.size) (by omega)
    rw [h] at h1
    exact h1.mono fun _ _ ⟨q1, q2⟩ => ⟨q1, q2 ▸ Below.refl _ _⟩)
  have HP := Lib.hid (fun (e n : Nat) (h : e + n ≤ b.length) => run_part hr e n h hc)
  have HL := Lib.hid (rfl : b.length = b.length)
  generalize hL : b.length = L at hm_b hc HT HP
  replace HL := Lib.hid hL
  clear hL hr_b
  cases hl : withinB L 1 4000
  · have HW := Lib.hid hl
    clear hl
    go_enter Try.func31, Try.ntmps31
    have HN := HNone.out (by unfold dec; rw [HL.out]; simp only [least]; rw [HW.out])
    obtain ⟨HN1, HN2⟩ := HN
    replace HN1 := Lib.hid HN1; replace HN2 := Lib.hid HN2
    go_wp2_with (go_at_call 49; refine (impl_within_b HW.out _).mono ?_; rintro e w' ⟨rfl, rfl⟩)
    refine bodyPost_ret (v := .tuple #[.agg #[.int .i64 0, .slice none 0 0, .slice none 0 0], .bool false]) (by simp [results, Try.results31, go_sem]) rfl ⟨[.int .i64 0, .slice none 0 0, .slice none 0 0], by rw [HN1.out], by rw [HN2.out]; exact own_Record_none _ _, by (repeat (first | (with_reducible exact Below.refl _ _) | (with_reducible assumption) | ((with_reducible refine Below.setCell ?_ ?_ _); rotate_left; focus (first | omega | (simp; done) | (simp; omega))) | ((with_reducible refine Below.alloc ?_ ?_ _); rotate_left; focus (first | omega | (simp; done) | (simp; omega))) | (with_reducible refine Below.drew ?_) | (with_reducible refine below_drewN ?_ _) | (refine Below.trans ?_ (Below.mono (by with_reducible assumption) (by (first | omega | (simp; done) | (simp; omega)))))))⟩
  · have hLb := withinB_iff.1 hl
    obtain ⟨hL1, hL2⟩ := hLb
    have hx0 : 0 < (b.map byteV).length := by rw [List.length_map, HL.out]; omega
    obtain ⟨g, off, rfl, hab, hcell0⟩ := hr.at_ hx0 (Below.refl _ _) (Nat.le_refl _)
    rw [List.getElem_map, Nat.add_zero] at hcell0
    have HK : Hid (headI b = ((b[0]'(by simpa using hx0)).toNat : Int)) := Lib.hid (headI_eq _)
    generalize b[0]'(by simpa using hx0) = x0 at hcell0 HK
    have hx01 := x0.toNat_lt
    simp only [byteV] at hcell0
    obtain ⟨K, hK⟩ : ∃ K : Int, K = x0.toNat := ⟨_, rfl⟩
    rw [← hK] at hcell0
    have HKK : Hid (headI b = K) := Lib.hid (by rw [HK.out, hK])
    have hK0 : 0 ≤ K := by omega
    have hK1 : K < 256 := by omega
    clear hK HK hx01 hx0
    have hLpos : 0 < L := by omega
    have HE1 : Hid (dec true b = st1 true b K (takeAt b 1)) := Lib.hid (by unfold dec; rw [HL.out]; simp only [least]; rw [hl, HKK.out])
    have HW := Lib.hid hl
    clear hl
    rcases h1 : takeAt b 1 with ⟨n, a1, ok⟩
    have H1 := Lib.hid h1
    rw [h1] at HE1
    clear h1
    go_enter Try.func31, Try.ntmps31
    go_wp2_with (go_at_call 49; refine (impl_within_b HW.out _).mono ?_; rintro e w' ⟨rfl, rfl⟩)
    refine (HT.out _ _ _ _ H1.out _ (by (repeat (first | (with_reducible exact Below.refl _ _) | (with_reducible assumption) | ((with_reducible refine Below.setCell ?_ ?_ _); rotate_left; focus (first | omega | (simp; done) | (simp; omega))) | ((with_reducible refine Below.alloc ?_ ?_ _); rotate_left; focus (first | omega | (simp; done) | (simp; omega))) | (with_reducible refine Below.drew ?_) | (with_reducible refine below_drewN ?_ _) | (refine Below.trans ?_ (Below.mono (by with_reducible assumption) (by (first | omega | (simp; done) | (simp; omega))))))))).mono ?_
    rintro e w1 ⟨rfl, hb1⟩
    have hz1 := hb1.size; try simp at hz1
    have BK0 : Blk w1 w.heap.size 27 #[.int .i64 0, .slice none 0 0, .slice none 0 0] := by (repeat (first | (with_reducible assumption) | ((with_reducible refine Blk.new' ?_); focus (simp; done)) | (with_reducible refine Blk.alloc ?_ _) | (with_reducible refine Blk.drew ?_) | (with_reducible refine Blk.drewN ?_ _) | ((with_reducible refine Blk.far ?_ ?_ _); rotate_left; focus (first | omega | (simp; done) | (simp; omega))) | (refine Blk.keep ?_ (by with_reducible assumption)) | (refine Blk.below ?_ (by with_reducible assumption) (by (first | omega | (simp; done) | (simp; omega))))))
    have BKR : Blk w1 (w.heap.size + 1) 27 #[.int .i64 K, .slice none 0 0, .slice none 0 0] := by (repeat (first | (with_reducible assumption) | ((with_reducible refine Blk.new' ?_); focus (simp; done)) | (with_reducible refine Blk.alloc ?_ _) | (with_reducible refine Blk.drew ?_) | (with_reducible refine Blk.drewN ?_ _) | ((with_reducible refine Blk.far ?_ ?_ _); rotate_left; focus (first | omega | (simp; done) | (simp; omega))) | (refine Blk.keep ?_ (by with_reducible assumption)) | (refine Blk.below ?_ (by with_reducible assumption) (by (first | omega | (simp; done) | (simp; omega))))))
    have hc0 := BK0.cell; have hf0 := BK0.frozen; have hl0 := BK0.lt
    have hcR := BKR.cell; have hfR := BKR.frozen; have hlR := BKR.lt
    clear hcell0
    cases ok
    · skip
      have HN := HNone.out (by rw [HE1.out]; rfl)
      obtain ⟨HN1, HN2⟩ := HN
      replace HN1 := Lib.hid HN1; replace HN2 := Lib.hid HN2
      go_wp2
      refine bodyPost_ret (v := .tuple #[.agg #[.int .i64 0, .slice none 0 0, .slice none 0 0], .bool false]) (by simp [results, Try.results31, go_sem, hc0, hf0]) rfl ⟨[.int .i64 0, .slice none 0 0, .slice none 0 0], by rw [HN1.out], by rw [HN2.out]; exact own_Record_none _ _, by (repeat (first | (with_reducible exact Below.refl _ _) | (with_reducible assumption) | ((with_reducible refine Below.setCell ?_ ?_ _); rotate_left; focus (first | omega | (simp; done) | (simp; omega))) | ((with_reducible refine Below.alloc ?_ ?_ _); rotate_left; focus (first | omega | (simp; done) | (simp; omega))) | (with_reducible refine Below.drew ?_) | (with_reducible refine below_drewN ?_ _) | (refine Below.trans ?_ (Below.mono (by with_reducible assumption) (by (first | omega | (simp; done) | (simp; omega)))))))⟩
    obtain ⟨p1, a, hp1, rfl, hpa, haL, -, hn1, hn2⟩ := takeAt_sound H1.out
    have haL' : a ≤ L := by rw [← HL.out]; exact haL
    clear haL hp1 hpa
    cases hbn : decide (40 < n)
    rotate_left
    · have HBN := Lib.hid hbn
      have HN := HNone.out (by rw [HE1.out]; simp only [st1]; rw [show bad true n = true by unfold bad; simp only [HBN.out]])
      obtain ⟨HN1, HN2⟩ := HN
      replace HN1 := Lib.hid HN1; replace HN2 := Lib.hid HN2
      go_wp2
      refine bodyPost_ret (v := .tuple #[.agg #[.int .i64 0, .slice none 0 0, .slice none 0 0], .bool false]) (by simp [results, Try.results31, go_sem, hc0, hf0]) rfl ⟨[.int .i64 0, .slice none 0 0, .slice none 0 0], by rw [HN1.out], by rw [HN2.out]; exact own_Record_none _ _, by (repeat (first | (with_reducible exact Below.refl _ _) | (with_reducible assumption) | ((with_reducible refine Below.setCell ?_ ?_ _); rotate_left; focus (first | omega | (simp; done) | (simp; omega))) | ((with_reducible refine Below.alloc ?_ ?_ _); rotate_left; focus (first | omega | (simp; done) | (simp; omega))) | (with_reducible refine Below.drew ?_) | (with_reducible refine below_drewN ?_ _) | (refine Below.trans ?_ (Below.mono (by with_reducible assumption) (by (first | omega | (simp; done) | (simp; omega)))))))⟩
    have hnr : n ≤ 40 := by have := of_decide_eq_false hbn; omega
    have HE2 : Hid (dec true b = st2 true b K (goNums b n.toNat [] a)) := Lib.hid (by rw [HE1.out]; simp only [st1]; rw [show bad true n = false by unfold bad; simp only [hbn]])
    have HBN := Lib.hid hbn
    clear hbn HE1 H1
    obtain ⟨N, hN⟩ : ∃ N : Nat, N = n.toNat := ⟨_, rfl⟩
    rw [← hN] at HE2
    have hN40 : N ≤ 40 := by omega
    have hnN : (N : Int) = n ∨ n < 0 ∧ N = 0 := by omega
    clear hN
    go_wp2
    go_loopw [6, 35] (fun at_ i wr => ∃ (k : Nat) (acc : List Int) (a : Nat) (A1 : Option Addr) (c1 : Nat), k ≤ N ∧ acc.length = k ∧ a ≤ L ∧ i = .int .i64 k ∧ at_ = .int .i64 a ∧ Below w.heap.size w wr ∧ w.heap.size + 2 ≤ wr.heap.size ∧ Blk wr w.heap.size 27 #[.int .i64 0, .slice none 0 0, .slice none 0 0] ∧ Blk wr (w.heap.size + 1) 27 #[.int .i64 K, .slice A1 acc.length c1, .slice none 0 0] ∧ wr.ownsRow (w.heap.size + 2) 3 1 (.slice A1 acc.length c1) acc.length (acc.map intV) ∧ Hid (dec true b = st2 true b K (goNums b (N - k) acc a))) (fun _ i _ => N - (intOf i).toNat)
    case atStart => exact ⟨0, [], a, none, 0, Nat.zero_le _, rfl, haL', rfl, rfl, by (repeat (first | (with_reducible exact Below.refl _ _) | (with_reducible assumption) | ((with_reducible refine Below.setCell ?_ ?_ _); rotate_left; focus (first | omega | (simp; done) | (simp; omega))) | ((with_reducible refine Below.alloc ?_ ?_ _); rotate_left; focus (first | omega | (simp; done) | (simp; omega))) | (with_reducible refine Below.drew ?_) | (with_reducible refine below_drewN ?_ _) | (refine Below.trans ?_ (Below.mono (by with_reducible assumption) (by (first | omega | (simp; done) | (simp; omega))))))), by omega, BK0, BKR, World.ownsRow_nil _ _ _ _, HE2⟩
    case round =>
      clear hc0 hf0 hl0 BK0 hcR hfR hlR BKR HE2 hb1 hz1
      obtain ⟨k, acc, a, A1, c1, hk, hacc, haL, rfl, rfl, hb, hzr, BK0, BKR, hown, HE2⟩ := hrel
      have hc0 := BK0.cell; have hf0 := BK0.frozen; have hl0 := BK0.lt
      have hcR := BKR.cell; have hfR := BKR.frozen; have hlR := BKR.lt
      have HAcc := Lib.hid hacc
      have haccb : acc.length ≤ 40 := by omega
      clear hacc
      by_cases hlt : k < N
      · obtain ⟨m, hm⟩ : ∃ m, N - k = m + 1 := ⟨N - k - 1, by omega⟩
        rw [hm] at HE2
        have hm' : N - (k + 1) = m := by omega
        have HM := Lib.hid hm'
        clear hm hm'
        rcases h1 : takeAt b a with ⟨x, e1, ok⟩
        have H1 := Lib.hid h1
        clear h1
        have hdk : decide ((k : Int) < n) = true := by simp; omega
        go_wp2_with fail
        refine (HT.out _ _ _ _ H1.out _ (by (repeat (first | (with_reducible exact Below.refl _ _) | (with_reducible assumption) | ((with_reducible refine Below.setCell ?_ ?_ _); rotate_left; focus (first | omega | (simp; done) | (simp; omega))) | ((with_reducible refine Below.alloc ?_ ?_ _); rotate_left; focus (first | omega | (simp; done) | (simp; omega))) | (with_reducible refine Below.drew ?_) | (with_reducible refine below_drewN ?_ _) | (refine Below.trans ?_ (Below.mono (by with_reducible assumption) (by (first | omega | (simp; done) | (simp; omega))))))))).mono ?_
        rintro e w2 ⟨rfl, hb2⟩
        have hz2 := hb2.size; try simp at hz2
        replace BK0 : Blk w2 w.heap.size 27 #[.int .i64 0, .slice none 0 0, .slice none 0 0] := by (repeat (first | (with_reducible assumption) | ((with_reducible refine Blk.new' ?_); focus (simp; done)) | (with_reducible refine Blk.alloc ?_ _) | (with_reducible refine Blk.drew ?_) | (with_reducible refine Blk.drewN ?_ _) | ((with_reducible refine Blk.far ?_ ?_ _); rotate_left; focus (first | omega | (simp; done) | (simp; omega))) | (refine Blk.keep ?_ (by with_reducible assumption)) | (refine Blk.below ?_ (by with_reducible assumption) (by (first | omega | (simp; done) | (simp; omega))))))
        replace BKR : Blk w2 (w.heap.size + 1) 27 #[.int .i64 K, .slice A1 acc.length c1, .slice none 0 0] := by (repeat (first | (with_reducible assumption) | ((with_reducible refine Blk.new' ?_); focus (simp; done)) | (with_reducible refine Blk.alloc ?_ _) | (with_reducible refine Blk.drew ?_) | (with_reducible refine Blk.drewN ?_ _) | ((with_reducible refine Blk.far ?_ ?_ _); rotate_left; focus (first | omega | (simp; done) | (simp; omega))) | (refine Blk.keep ?_ (by with_reducible assumption)) | (refine Blk.below ?_ (by with_reducible assumption) (by (first | omega | (simp; done) | (simp; omega))))))
        replace hc0 := BK0.cell; replace hf0 := BK0.frozen; replace hl0 := BK0.lt
        replace hcR := BKR.cell; replace hfR := BKR.frozen; replace hlR := BKR.lt
        cases ok
        · skip
          have HN := HNone.out (by rw [HE2.out, goNums, H1.out]; rfl)
          obtain ⟨HN1, HN2⟩ := HN
          replace HN1 := Lib.hid HN1; replace HN2 := Lib.hid HN2
          go_wp2
          refine bodyPost_ret (v := .tuple #[.agg #[.int .i64 0, .slice none 0 0, .slice none 0 0], .bool false]) (by simp [results, Try.results31, go_sem, hc0, hf0]) rfl ⟨[.int .i64 0, .slice none 0 0, .slice none 0 0], by rw [HN1.out], by rw [HN2.out]; exact own_Record_none _ _, by (repeat (first | (with_reducible exact Below.refl _ _) | (with_reducible assumption) | ((with_reducible refine Below.setCell ?_ ?_ _); rotate_left; focus (first | omega | (simp; done) | (simp; omega))) | ((with_reducible refine Below.alloc ?_ ?_ _); rotate_left; focus (first | omega | (simp; done) | (simp; omega))) | (with_reducible refine Below.drew ?_) | (with_reducible refine below_drewN ?_ _) | (refine Below.trans ?_ (Below.mono (by with_reducible assumption) (by (first | omega | (simp; done) | (simp; omega)))))))⟩
        obtain ⟨p1, a', hp1, rfl, hpa, haL', -, hx1, hx2⟩ := takeAt_sound H1.out
        have haL2 : a' ≤ L := by rw [← HL.out]; exact haL'
        have HE3 : Hid (dec true b = st2 true b K (goNums b m (acc ++ [x]) a')) := Lib.hid (by rw [HE2.out, goNums, H1.out])
        clear HE2 haL' hp1 hpa H1
        have hown2 : w2.ownsRow (w.heap.size + 2) 3 1 (.slice A1 acc.length c1) acc.length (acc.map intV) := by (repeat (first | (with_reducible exact hown) | ((with_reducible refine own_setCell ?_ ?_ _); rotate_left; focus (first | omega | (simp; done) | (simp; omega))) | (with_reducible refine World.ownsRow.alloc ?_ _) | (with_reducible refine own_drew ?_) | (with_reducible refine own_drewN ?_ _) | (refine own_below ?_ (by with_reducible assumption))))
        have hne : ∀ q, q < w.heap.size + 2 → some q ≠ (Value.slice A1 acc.length c1).ownBlock := fun q hq e => by have := (hown2.lt _ e.symm).1; omega
        have hbw2 : Below w.heap.size w w2 := by (repeat (first | (with_reducible exact Below.refl _ _) | (with_reducible assumption) | ((with_reducible refine Below.setCell ?_ ?_ _); rotate_left; focus (first | omega | (simp; done) | (simp; omega))) | ((with_reducible refine Below.alloc ?_ ?_ _); rotate_left; focus (first | omega | (simp; done) | (simp; omega))) | (with_reducible refine Below.drew ?_) | (with_reducible refine below_drewN ?_ _) | (refine Below.trans ?_ (Below.mono (by with_reducible assumption) (by (first | omega | (simp; done) | (simp; omega)))))))
        go_wp2_with (first | (at_builtin; go_loud (refine wpList_append_own_at _ rfl _ _ 24 rfl (w.heap.size + 2) 3 i0 (.int .i64 0) 1 8 Try.underlying24 hi0 hI0 hI1 hI2 rfl (by decide) _ _ _ rfl (hown2.alloc _) ⟨w2.heap.size, 0, none⟩ 1 1 [.int .i64 x] rfl rfl ?c1 ?c2 ?c3 ?c4 ?c5 ?_; (case c1 => exact cell_one_new _ _ _); (case c2 => simp [Value.oneCell']); (case c3 => (simp only [maxLen]; omega)); (case c4 => omega); (case c5 => (simp; omega)); intro v' wA hown1 hgrow hnil hat; obtain ⟨gg, cap, rfl, hg1, hg2⟩ := hown1.form (by omega); have BX := Blk.grown (BKR.alloc _) hgrow (hne _ (by omega)); have hcX := BX.cell; have hfX := BX.frozen)))
        go_roundw
        case rel =>
          have hsz := hgrow.size
          simp at hsz
          refine ⟨k + 1, acc ++ [x], a', some ⟨gg, 0, none⟩, cap, by omega, by rw [List.length_append, HAcc.out]; rfl, haL2, by go_num, rfl, ?_, by simp; omega, ?_, ?_, ?_, by rw [HM.out]; exact HE3⟩
          · exact (Below.grown (hbw2.alloc (by omega) _) hgrow (by simp; omega) (fun q e => by have := (hown2.lt _ e).1; omega)).setCell (by simp; try omega) _
          · exact ((BK0.alloc _).grown hgrow (hne _ (by omega))).far (by simp) _
          · have hB := BX.set_ 1 (.slice (some ⟨gg, 0, none⟩) (acc.length + 1) cap)
            rw [List.length_append]
            simpa using hB
          · rw [List.length_append, List.map_append]
            exact own_setCell (by simpa [intV] using hown1) (by simp) _
        case measure => simp [intOf]; omega
      obtain rfl : k = N := by omega
      have HE3 : Hid (dec true b = st3 true b K acc (takeAt b a)) := Lib.hid (by rw [HE2.out, Nat.sub_self]; rfl)
      clear HE2
      rcases h1 : takeAt b a with ⟨n2, e1, ok⟩
      have H1 := Lib.hid h1
      rw [h1] at HE3
      clear h1
      have hdk : decide ((k : Int) < n) = false := by simp; omega
      go_wp2_with fail
      refine (HT.out _ _ _ _ H1.out _ (by (repeat (first | (with_reducible exact Below.refl _ _) | (with_reducible assumption) | ((with_reducible refine Below.setCell ?_ ?_ _); rotate_left; focus (first | omega | (simp; done) | (simp; omega))) | ((with_reducible refine Below.alloc ?_ ?_ _); rotate_left; focus (first | omega | (simp; done) | (simp; omega))) | (with_reducible refine Below.drew ?_) | (with_reducible refine below_drewN ?_ _) | (refine Below.trans ?_ (Below.mono (by with_reducible assumption) (by (first | omega | (simp; done) | (simp; omega))))))))).mono ?_
      rintro e w3 ⟨rfl, hb3⟩
      have hz3 := hb3.size; try simp at hz3
      replace BK0 : Blk w3 w.heap.size 27 #[.int .i64 0, .slice none 0 0, .slice none 0 0] := by (repeat (first | (with_reducible assumption) | ((with_reducible refine Blk.new' ?_); focus (simp; done)) | (with_reducible refine Blk.alloc ?_ _) | (with_reducible refine Blk.drew ?_) | (with_reducible refine Blk.drewN ?_ _) | ((with_reducible refine Blk.far ?_ ?_ _); rotate_left; focus (first | omega | (simp; done) | (simp; omega))) | (refine Blk.keep ?_ (by with_reducible assumption)) | (refine Blk.below ?_ (by with_reducible assumption) (by (first | omega | (simp; done) | (simp; omega))))))
      replace BKR : Blk w3 (w.heap.size + 1) 27 #[.int .i64 K, .slice A1 acc.length c1, .slice none 0 0] := by (repeat (first | (with_reducible assumption) | ((with_reducible refine Blk.new' ?_); focus (simp; done)) | (with_reducible refine Blk.alloc ?_ _) | (with_reducible refine Blk.drew ?_) | (with_reducible refine Blk.drewN ?_ _) | ((with_reducible refine Blk.far ?_ ?_ _); rotate_left; focus (first | omega | (simp; done) | (simp; omega))) | (refine Blk.keep ?_ (by with_reducible assumption)) | (refine Blk.below ?_ (by with_reducible assumption) (by (first | omega | (simp; done) | (simp; omega))))))
      replace hc0 := BK0.cell; replace hf0 := BK0.frozen; replace hl0 := BK0.lt
      replace hcR := BKR.cell; replace hfR := BKR.frozen; replace hlR := BKR.lt
      have hown2 : w3.ownsRow (w.heap.size + 2) 3 1 (.slice A1 acc.length c1) acc.length (acc.map intV) := by (repeat (first | (with_reducible exact hown) | ((with_reducible refine own_setCell ?_ ?_ _); rotate_left; focus (first | omega | (simp; done) | (simp; omega))) | (with_reducible refine World.ownsRow.alloc ?_ _) | (with_reducible refine own_drew ?_) | (with_reducible refine own_drewN ?_ _) | (refine own_below ?_ (by with_reducible assumption))))
      clear hown
      cases ok
      · skip
        have HN := HNone.out (by rw [HE3.out]; rfl)
        obtain ⟨HN1, HN2⟩ := HN
        replace HN1 := Lib.hid HN1; replace HN2 := Lib.hid HN2
        go_wp2
        refine bodyPost_ret (v := .tuple #[.agg #[.int .i64 0, .slice none 0 0, .slice none 0 0], .bool false]) (by simp [results, Try.results31, go_sem, hc0, hf0]) rfl ⟨[.int .i64 0, .slice none 0 0, .slice none 0 0], by rw [HN1.out], by rw [HN2.out]; exact own_Record_none _ _, by (repeat (first | (with_reducible exact Below.refl _ _) | (with_reducible assumption) | ((with_reducible refine Below.setCell ?_ ?_ _); rotate_left; focus (first | omega | (simp; done) | (simp; omega))) | ((with_reducible refine Below.alloc ?_ ?_ _); rotate_left; focus (first | omega | (simp; done) | (simp; omega))) | (with_reducible refine Below.drew ?_) | (with_reducible refine below_drewN ?_ _) | (refine Below.trans ?_ (Below.mono (by with_reducible assumption) (by (first | omega | (simp; done) | (simp; omega)))))))⟩
      obtain ⟨p1, a2, hp1, rfl, hpa, haL', -, hn3, hn4⟩ := takeAt_sound H1.out
      have haL2 : a2 ≤ L := by rw [← HL.out]; exact haL'
      clear haL' hp1 hpa H1
      cases hbn : decide (40 < n2)
      rotate_left
      · have HBN := Lib.hid hbn
        have HN := HNone.out (by rw [HE3.out]; simp only [st3]; rw [show bad true n2 = true by unfold bad; simp only [HBN.out]])
        obtain ⟨HN1, HN2⟩ := HN
        replace HN1 := Lib.hid HN1; replace HN2 := Lib.hid HN2
        go_wp2
        refine bodyPost_ret (v := .tuple #[.agg #[.int .i64 0, .slice none 0 0, .slice none 0 0], .bool false]) (by simp [results, Try.results31, go_sem, hc0, hf0]) rfl ⟨[.int .i64 0, .slice none 0 0, .slice none 0 0], by rw [HN1.out], by rw [HN2.out]; exact own_Record_none _ _, by (repeat (first | (with_reducible exact Below.refl _ _) | (with_reducible assumption) | ((with_reducible refine Below.setCell ?_ ?_ _); rotate_left; focus (first | omega | (simp; done) | (simp; omega))) | ((with_reducible refine Below.alloc ?_ ?_ _); rotate_left; focus (first | omega | (simp; done) | (simp; omega))) | (with_reducible refine Below.drew ?_) | (with_reducible refine below_drewN ?_ _) | (refine Below.trans ?_ (Below.mono (by with_reducible assumption) (by (first | omega | (simp; done) | (simp; omega)))))))⟩
      have hnr2 : n2 ≤ 40 := by have := of_decide_eq_false hbn; omega
      have HE4 : Hid (dec true b = st4 true b K acc (goTexts b n2.toNat [] a2)) := Lib.hid (by rw [HE3.out]; simp only [st3]; rw [show bad true n2 = false by unfold bad; simp only [hbn]])
      have HBN2 := Lib.hid hbn
      clear hbn HE3
      obtain ⟨M, hM⟩ : ∃ M : Nat, M = n2.toNat := ⟨_, rfl⟩
      rw [← hM] at HE4
      have hM40 : M ≤ 40 := by omega
      have hnM : (M : Int) = n2 ∨ n2 < 0 ∧ M = 0 := by omega
      clear hM
      have hbw3 : Below w.heap.size w w3 := by (repeat (first | (with_reducible exact Below.refl _ _) | (with_reducible assumption) | ((with_reducible refine Below.setCell ?_ ?_ _); rotate_left; focus (first | omega | (simp; done) | (simp; omega))) | ((with_reducible refine Below.alloc ?_ ?_ _); rotate_left; focus (first | omega | (simp; done) | (simp; omega))) | (with_reducible refine Below.drew ?_) | (with_reducible refine below_drewN ?_ _) | (refine Below.trans ?_ (Below.mono (by with_reducible assumption) (by (first | omega | (simp; done) | (simp; omega)))))))
      have hw3 : w.heap.size + 2 ≤ w3.heap.size := by omega
      clear hb hb3 haL
      have HON : Hid (SlOwn intR 3 w3 (InR (w.heap.size + 2) w3.heap.size) (.slice A1 acc.length c1) acc) := Lib.hid (of_own_in_IntS hown2)
      clear hown2
      go_wp2
      go_loopw [6, 69] (fun at_ i wr => ∃ (k : Nat) (tx : List ByteArray) (a : Nat) (A2 : Option Addr) (c2 : Nat), k ≤ M ∧ tx.length = k ∧ a ≤ L ∧ i = .int .i64 k ∧ at_ = .int .i64 a ∧ Below w.heap.size w wr ∧ Out (fun q => q < w.heap.size + 2) w3 wr ∧ Blk wr w.heap.size 27 #[.int .i64 0, .slice none 0 0, .slice none 0 0] ∧ Blk wr (w.heap.size + 1) 27 #[.int .i64 K, .slice A1 acc.length c1, .slice A2 tx.length c2] ∧ wr.ownsRow w3.heap.size 9 1 (.slice A2 tx.length c2) tx.length (tx.map strV) ∧ (∀ s ∈ tx, s.size ≤ 4000) ∧ Hid (dec true b = st4 true b K acc (goTexts b (M - k) tx a))) (fun _ i _ => M - (intOf i).toNat)
      case atStart => exact ⟨0, [], a2, none, 0, Nat.zero_le _, rfl, haL2, rfl, rfl, hbw3, Out.refl _ _, BK0, BKR, World.ownsRow_nil _ _ _ _, by simp, HE4⟩
      case round =>
        clear hc0 hf0 hl0 BK0 hcR hfR hlR BKR HE4 hbw3
        obtain ⟨k, tx, a, A2, c2, hk, htx, haL, rfl, rfl, hb, hout, BK0, BKR, hown, hsz, HE4⟩ := hrel
        have hc0 := BK0.cell; have hf0 := BK0.frozen; have hl0 := BK0.lt
        have hcR := BKR.cell; have hfR := BKR.frozen; have hlR := BKR.lt
        have hzr := hout.size
        have HSz := Lib.hid hsz
        have HTx := Lib.hid htx
        have htxb : tx.length ≤ 40 := by omega
        clear hsz htx
        by_cases hlt : k < M
        · obtain ⟨m, hm⟩ : ∃ m, M - k = m + 1 := ⟨M - k - 1, by omega⟩
          rw [hm] at HE4
          have hm' : M - (k + 1) = m := by omega
          have HM := Lib.hid hm'
          clear hm hm'
          rcases h1 : takeAt b a with ⟨x, e1, ok⟩
          have H1 := Lib.hid h1
          clear h1
          have hdk : decide ((k : Int) < n2) = true := by simp; omega
          go_wp2_with fail
          refine (HT.out _ _ _ _ H1.out _ (by (repeat (first | (with_reducible exact Below.refl _ _) | (with_reducible assumption) | ((with_reducible refine Below.setCell ?_ ?_ _); rotate_left; focus (first | omega | (simp; done) | (simp; omega))) | ((with_reducible refine Below.alloc ?_ ?_ _); rotate_left; focus (first | omega | (simp; done) | (simp; omega))) | (with_reducible refine Below.drew ?_) | (with_reducible refine below_drewN ?_ _) | (refine Below.trans ?_ (Below.mono (by with_reducible assumption) (by (first | omega | (simp; done) | (simp; omega))))))))).mono ?_
          rintro e w4 ⟨rfl, hb4⟩
          have hz4 := hb4.size; try simp at hz4
          replace BK0 : Blk w4 w.heap.size 27 #[.int .i64 0, .slice none 0 0, .slice none 0 0] := by (repeat (first | (with_reducible assumption) | ((with_reducible refine Blk.new' ?_); focus (simp; done)) | (with_reducible refine Blk.alloc ?_ _) | (with_reducible refine Blk.drew ?_) | (with_reducible refine Blk.drewN ?_ _) | ((with_reducible refine Blk.far ?_ ?_ _); rotate_left; focus (first | omega | (simp; done) | (simp; omega))) | (refine Blk.keep ?_ (by with_reducible assumption)) | (refine Blk.below ?_ (by with_reducible assumption) (by (first | omega | (simp; done) | (simp; omega))))))
          replace BKR : Blk w4 (w.heap.size + 1) 27 #[.int .i64 K, .slice A1 acc.length c1, .slice A2 tx.length c2] := by (repeat (first | (with_reducible assumption) | ((with_reducible refine Blk.new' ?_); focus (simp; done)) | (with_reducible refine Blk.alloc ?_ _) | (with_reducible refine Blk.drew ?_) | (with_reducible refine Blk.drewN ?_ _) | ((with_reducible refine Blk.far ?_ ?_ _); rotate_left; focus (first | omega | (simp; done) | (simp; omega))) | (refine Blk.keep ?_ (by with_reducible assumption)) | (refine Blk.below ?_ (by with_reducible assumption) (by (first | omega | (simp; done) | (simp; omega))))))
          replace hc0 := BK0.cell; replace hf0 := BK0.frozen; replace hl0 := BK0.lt
          replace hcR := BKR.cell; replace hfR := BKR.frozen; replace hlR := BKR.lt
          cases ok
          · skip
            have HN := HNone.out (by rw [HE4.out, goTexts, H1.out]; rfl)
            obtain ⟨HN1, HN2⟩ := HN
            replace HN1 := Lib.hid HN1; replace HN2 := Lib.hid HN2
            go_wp2
            refine bodyPost_ret (v := .tuple #[.agg #[.int .i64 0, .slice none 0 0, .slice none 0 0], .bool false]) (by simp [results, Try.results31, go_sem, hc0, hf0]) rfl ⟨[.int .i64 0, .slice none 0 0, .slice none 0 0], by rw [HN1.out], by rw [HN2.out]; exact own_Record_none _ _, by (repeat (first | (with_reducible exact Below.refl _ _) | (with_reducible assumption) | ((with_reducible refine Below.setCell ?_ ?_ _); rotate_left; focus (first | omega | (simp; done) | (simp; omega))) | ((with_reducible refine Below.alloc ?_ ?_ _); rotate_left; focus (first | omega | (simp; done) | (simp; omega))) | (with_reducible refine Below.drew ?_) | (with_reducible refine below_drewN ?_ _) | (refine Below.trans ?_ (Below.mono (by with_reducible assumption) (by (first | omega | (simp; done) | (simp; omega)))))))⟩
          obtain ⟨p1, a', hp1, rfl, hpa, haL', -, hx1, hx2⟩ := takeAt_sound H1.out
          have haL2 : a' ≤ L := by rw [← HL.out]; exact haL'
          clear haL' hp1 hpa
          have HW2 : Hid (∀ ok, withinB x 0 ((b.length : Int) - a') = ok → withinB x 0 ((L : Int) - a') = ok) := Lib.hid (by intro ok h; rw [← HL.out]; exact h)
          cases hbx : withinB x 0 ((b.length : Int) - a')
          · have HBX := Lib.hid (HW2.out _ hbx)
            have HBX2 := Lib.hid hbx
            clear hbx
            have HN := HNone.out (by rw [HE4.out, goTexts, H1.out]; simp only [HBX2.out]; rfl)
            obtain ⟨HN1, HN2⟩ := HN
            replace HN1 := Lib.hid HN1; replace HN2 := Lib.hid HN2
            go_wp2_with (go_at_call 49; refine (impl_within_b HBX.out _).mono ?_; rintro e w' ⟨rfl, rfl⟩)
            refine bodyPost_ret (v := .tuple #[.agg #[.int .i64 0, .slice none 0 0, .slice none 0 0], .bool false]) (by simp [results, Try.results31, go_sem, hc0, hf0]) rfl ⟨[.int .i64 0, .slice none 0 0, .slice none 0 0], by rw [HN1.out], by rw [HN2.out]; exact own_Record_none _ _, by (repeat (first | (with_reducible exact Below.refl _ _) | (with_reducible assumption) | ((with_reducible refine Below.setCell ?_ ?_ _); rotate_left; focus (first | omega | (simp; done) | (simp; omega))) | ((with_reducible refine Below.alloc ?_ ?_ _); rotate_left; focus (first | omega | (simp; done) | (simp; omega))) | (with_reducible refine Below.drew ?_) | (with_reducible refine below_drewN ?_ _) | (refine Below.trans ?_ (Below.mono (by with_reducible assumption) (by (first | omega | (simp; done) | (simp; omega)))))))⟩
          have HBX := Lib.hid (HW2.out _ hbx)
          obtain ⟨hxa, hxb⟩ := withinB_iff.1 HBX.out
          obtain ⟨y, rfl⟩ := Int.eq_ofNat_of_zero_le hxa
          have HE5 : Hid (dec true b = st4 true b K acc (goTexts b m (tx ++ [chunk b a' y]) ((a' + y : Nat) : Int))) := Lib.hid (by rw [HE4.out, goTexts, H1.out]; simp only [hbx]; rfl)
          clear HE4 H1 hbx HW2 hxa
          have hay : a' + y ≤ L := by omega
          obtain ⟨Ap, hrp, hsl⟩ := HP.out a' y hay
          have hcl : (((b.drop a').take y)).length = y := by have := HL.out; simp; omega
          have hown2 : w4.ownsRow w3.heap.size 9 1 (.slice A2 tx.length c2) tx.length (tx.map strV) := by (repeat (first | (with_reducible exact hown) | ((with_reducible refine own_setCell ?_ ?_ _); rotate_left; focus (first | omega | (simp; done) | (simp; omega))) | (with_reducible refine World.ownsRow.alloc ?_ _) | (with_reducible refine own_drew ?_) | (with_reducible refine own_drewN ?_ _) | (refine own_below ?_ (by with_reducible assumption))))
          have hbw4 : Below w.heap.size w w4 := by (repeat (first | (with_reducible exact Below.refl _ _) | (with_reducible assumption) | ((with_reducible refine Below.setCell ?_ ?_ _); rotate_left; focus (first | omega | (simp; done) | (simp; omega))) | ((with_reducible refine Below.alloc ?_ ?_ _); rotate_left; focus (first | omega | (simp; done) | (simp; omega))) | (with_reducible refine Below.drew ?_) | (with_reducible refine below_drewN ?_ _) | (refine Below.trans ?_ (Below.mono (by with_reducible assumption) (by (first | omega | (simp; done) | (simp; omega)))))))
          have hcv := run_strOf (w := w4.drew) (c - a') (hrp.below (B' := w.heap.size) (below_drew hbw4) (Nat.le_refl _))
          rw [hcl] at hcv
          have HCs : Hid ((chunk b a' y).size ≤ 4000) := Lib.hid (by show ((b.drop a').take y).toArray.size ≤ 4000; rw [List.size_toArray, hcl]; omega)
          clear hcl hrp
          generalize hch : strOf ((b.drop a').take y) = ch at hcv
          replace HE5 : Hid (dec true b = st4 true b K acc (goTexts b m (tx ++ [ch]) ((a' + y : Nat) : Int))) := by rw [← hch]; exact HE5
          replace HCs : Hid (ch.size ≤ 4000) := by rw [← hch]; exact HCs
          clear hch
          have hi1 : IntKind.i64.wrap ((a' : Int) + y) = a' + y := IntWalk.i64_in _ (by omega)
          have hne : ∀ q, q < w3.heap.size → some q ≠ (Value.slice A2 tx.length c2).ownBlock := fun q hq e => by have := (hown2.lt _ e.symm).1; omega
          go_wp2_with (go_at_call 49; refine (impl_within_b HBX.out _).mono ?_; rintro e w' ⟨rfl, rfl⟩)
          go_region_law (refine step_append_lies _ (by rfl) _ _ _ (by rfl) w3.heap.size 9 j0 _ 1 16 Try.underlying25 hj0 hJ0 hJ1 hJ2 rfl (by omega) (.slice A2 tx.length c2) tx.length _ (by rfl) ((hown2.drew).alloc _) ⟨w4.heap.size, 0, none⟩ 1 1 [.string ch] (by rfl) (by rfl) (World.news_of_block (cs := #[.string ch]) (t := 9) (fr := (0, 0)) (heap_alloc_new w4.drew _)) (by simp [Value.oneCell']) (by omega) (by simp only [maxLen]; omega) (by omega) (by simp; omega) (w4.heap.size + 1) (by simp) ?_; intro gg cap w5 hown1 hgrow hat hlt1; have BX := Blk.grown (BKR.drew.alloc (.cells #[.string ch] 9)) hgrow (hne _ (by omega)); have hcX := BX.cell; have hfX := BX.frozen)
          have hbase : w3.heap.size ≤ w3.heap.size := Nat.le_refl _
          all_goals
            go_wp2
            go_roundw
            case rel =>
              have hsz5 := hgrow.size
              simp at hsz5
              have hrow : ∀ q, (Value.slice A2 tx.length c2).ownBlock = some q → w3.heap.size ≤ q := fun q e => (hown2.lt _ e).1
              refine ⟨k + 1, tx ++ [ch], a' + y, some ⟨gg, 0, none⟩, cap, by omega, by rw [List.length_append, HTx.out]; rfl, hay, by go_num, by go_num, ?_, ?_, ?_, ?_, ?_, ?_, by rw [HM.out]; exact HE5⟩
              · exact (Below.grown (Below.alloc (below_drew hbw4) (by simp; omega) (.cells #[.string ch] 9)) hgrow (by simp; omega) (fun q e => by have := hrow q e; omega)).setCell (by simp; try omega) _
              · exact Out.setCell (Out.grow (((hout.step hb4).drew).alloc _) hgrow hrow) (p := ⟨(w.heap.size + 1), 2, none⟩) (show (w.heap.size + 1) < w.heap.size + 2 by omega) _
              · exact ((BK0.drew.alloc (.cells #[.string ch] 9)).grown hgrow (hne _ (by omega))).far (by simp) _
              · have hB := BX.set_ 2 (.slice (some ⟨gg, 0, none⟩) (tx.length + 1) cap)
                rw [List.length_append]
                simpa using hB
              · rw [List.length_append, List.map_append]
                exact own_setCell (by simpa [strV] using hown1) (by simp; omega) _
              · intro s hs
                rcases List.mem_append.1 hs with hs | hs
                · exact HSz.out s hs
                · rw [List.mem_singleton.1 hs]; exact HCs.out
            case measure => simp [intOf]; omega
        obtain rfl : k = M := by omega
        have HE5 : Hid (dec true b = fin4 true b ⟨K, acc, tx⟩ a) := Lib.hid (by rw [HE4.out, Nat.sub_self]; rfl)
        clear HE4
        have HOwn : Hid (RecordR.Own wr (InR (w.heap.size + 2) wr.heap.size) [.int .i64 K, .slice A1 acc.length c1, .slice A2 tx.length c2] ⟨K, acc, tx⟩) := Lib.hid (of_own_Record (x := ⟨K, acc, tx⟩) (HON.out.out hout (fun q h1 h2 => by have := h1.1; omega)) (of_own_in_StringS hown (fun s hs => by have := HSz.out s hs; omega)) (inR_mono (by omega) (by omega)) (inR_mono (by omega) (by omega)) (inR_apart (.inl (Nat.le_refl _))))
        have hrsz : RecordR.sz ⟨K, acc, tx⟩ ≤ 1048576 := by
          rw [sz_Record, sz_IntS, sz_StringS]
          have := strSum_le HSz.out
          simp only
          have : 4000 * tx.length ≤ 4000 * 40 := Nat.mul_le_mul_left _ (by omega)
          omega
        have HRd : Hid (RecordR.Rd wr wr.heap.size [.int .i64 K, .slice A1 acc.length c1, .slice A2 tx.length c2] ⟨K, acc, tx⟩) := Lib.hid (RecordR.own_rd HOwn.out (fun q h => h.2))
        have HRsz := Lib.hid hrsz
        clear hrsz hown
        have hdk : decide ((k : Int) < n2) = false := by simp; omega
        go_wp2_with fail
        refine (impl_encodeRecord _ ⟨K, acc, tx⟩ _ (RecordR.rd_keep HRd.out (by (repeat (first | (with_reducible exact Below.refl _ _) | (with_reducible assumption) | ((with_reducible refine Below.setCell ?_ ?_ _); rotate_left; focus (first | omega | (simp; done) | (simp; omega))) | ((with_reducible refine Below.alloc ?_ ?_ _); rotate_left; focus (first | omega | (simp; done) | (simp; omega))) | (with_reducible refine Below.drew ?_) | (with_reducible refine below_drewN ?_ _) | (refine Below.trans ?_ (Below.mono (by with_reducible assumption) (by (first | omega | (simp; done) | (simp; omega)))))))) (by first | omega | (simp; done) | (simp; omega))) HRsz.out).mono ?_
        rintro e w5 ⟨A3, c3, rfl, ho3, hb5⟩
        have hz5 := hb5.size; try simp at hz5
        replace BK0 : Blk w5 w.heap.size 27 #[.int .i64 0, .slice none 0 0, .slice none 0 0] := by (repeat (first | (with_reducible assumption) | ((with_reducible refine Blk.new' ?_); focus (simp; done)) | (with_reducible refine Blk.alloc ?_ _) | (with_reducible refine Blk.drew ?_) | (with_reducible refine Blk.drewN ?_ _) | ((with_reducible refine Blk.far ?_ ?_ _); rotate_left; focus (first | omega | (simp; done) | (simp; omega))) | (refine Blk.keep ?_ (by with_reducible assumption)) | (refine Blk.below ?_ (by with_reducible assumption) (by (first | omega | (simp; done) | (simp; omega))))))
        replace BKR : Blk w5 (w.heap.size + 1) 27 #[.int .i64 K, .slice A1 acc.length c1, .slice A2 tx.length c2] := by (repeat (first | (with_reducible assumption) | ((with_reducible refine Blk.new' ?_); focus (simp; done)) | (with_reducible refine Blk.alloc ?_ _) | (with_reducible refine Blk.drew ?_) | (with_reducible refine Blk.drewN ?_ _) | ((with_reducible refine Blk.far ?_ ?_ _); rotate_left; focus (first | omega | (simp; done) | (simp; omega))) | (refine Blk.keep ?_ (by with_reducible assumption)) | (refine Blk.below ?_ (by with_reducible assumption) (by (first | omega | (simp; done) | (simp; omega))))))
        replace hc0 := BK0.cell; replace hf0 := BK0.frozen; replace hl0 := BK0.lt
        replace hcR := BKR.cell; replace hfR := BKR.frozen; replace hlR := BKR.lt
        cases hro : encOk ⟨K, acc, tx⟩
        all_goals have HRO := Lib.hid hro; clear hro
        · skip
          have HN := HNone.out (by rw [HE5.out]; simp only [fin4, HRO.out, Bool.false_and])
          obtain ⟨HN1, HN2⟩ := HN
          replace HN1 := Lib.hid HN1; replace HN2 := Lib.hid HN2
          go_wp2
          refine bodyPost_ret (v := .tuple #[.agg #[.int .i64 0, .slice none 0 0, .slice none 0 0], .bool false]) (by simp [results, Try.results31, go_sem, hc0, hf0]) rfl ⟨[.int .i64 0, .slice none 0 0, .slice none 0 0], by rw [HN1.out], by rw [HN2.out]; exact own_Record_none _ _, by (repeat (first | (with_reducible exact Below.refl _ _) | (with_reducible assumption) | ((with_reducible refine Below.setCell ?_ ?_ _); rotate_left; focus (first | omega | (simp; done) | (simp; omega))) | ((with_reducible refine Below.alloc ?_ ?_ _); rotate_left; focus (first | omega | (simp; done) | (simp; omega))) | (with_reducible refine Below.drew ?_) | (with_reducible refine below_drewN ?_ _) | (refine Below.trans ?_ (Below.mono (by with_reducible assumption) (by (first | omega | (simp; done) | (simp; omega)))))))⟩
        · have hr5 : Reads w5 w5.heap.size (some ⟨g, off, none⟩) (b.map byteV) := hr.keep (by (repeat (first | (with_reducible exact Below.refl _ _) | (with_reducible assumption) | ((with_reducible refine Below.setCell ?_ ?_ _); rotate_left; focus (first | omega | (simp; done) | (simp; omega))) | ((with_reducible refine Below.alloc ?_ ?_ _); rotate_left; focus (first | omega | (simp; done) | (simp; omega))) | (with_reducible refine Below.drew ?_) | (with_reducible refine below_drewN ?_ _) | (refine Below.trans ?_ (Below.mono (by with_reducible assumption) (by (first | omega | (simp; done) | (simp; omega)))))))) (by first | omega | (simp; done) | (simp; omega))
          have HBE := Lib.hid (bytes_Equal _ _ c3 c (encB ⟨K, acc, tx⟩) b w5 (Reads.of_own ho3) hr5)
          rw [HL.out] at HBE
          clear ho3 hr5
          cases hbe : decide (encB ⟨K, acc, tx⟩ = b)
          all_goals rw [hbe] at HBE; have HEq := Lib.hid hbe; clear hbe
          · skip
            have HN := HNone.out (by rw [HE5.out]; simp only [fin4, HEq.out, Bool.and_false])
            obtain ⟨HN1, HN2⟩ := HN
            replace HN1 := Lib.hid HN1; replace HN2 := Lib.hid HN2
            go_wp2_with (go_at_call 51; refine HBE.out.mono ?_; rintro e w' ⟨rfl, rfl⟩)
            refine bodyPost_ret (v := .tuple #[.agg #[.int .i64 0, .slice none 0 0, .slice none 0 0], .bool false]) (by simp [results, Try.results31, go_sem, hc0, hf0]) rfl ⟨[.int .i64 0, .slice none 0 0, .slice none 0 0], by rw [HN1.out], by rw [HN2.out]; exact own_Record_none _ _, by (repeat (first | (with_reducible exact Below.refl _ _) | (with_reducible assumption) | ((with_reducible refine Below.setCell ?_ ?_ _); rotate_left; focus (first | omega | (simp; done) | (simp; omega))) | ((with_reducible refine Below.alloc ?_ ?_ _); rotate_left; focus (first | omega | (simp; done) | (simp; omega))) | (with_reducible refine Below.drew ?_) | (with_reducible refine below_drewN ?_ _) | (refine Below.trans ?_ (Below.mono (by with_reducible assumption) (by (first | omega | (simp; done) | (simp; omega)))))))⟩
          · obtain ⟨HY1, HY2⟩ := HSome.out ⟨K, acc, tx⟩ (by rw [HE5.out]; simp only [fin4, HRO.out, HEq.out, Bool.and_self])
            replace HY1 := Lib.hid HY1; replace HY2 := Lib.hid HY2
            go_wp2_with (go_at_call 51; refine HBE.out.mono ?_; rintro e w' ⟨rfl, rfl⟩)
            refine bodyPost_ret (v := .tuple #[.agg #[.int .i64 K, .slice A1 acc.length c1, .slice A2 tx.length c2], .bool true]) (by simp [results, Try.results31, go_sem, hc0, hf0]) rfl ⟨[.int .i64 K, .slice A1 acc.length c1, .slice A2 tx.length c2], by rw [HY1.out], ?_, by (repeat (first | (with_reducible exact Below.refl _ _) | (with_reducible assumption) | ((with_reducible refine Below.setCell ?_ ?_ _); rotate_left; focus (first | omega | (simp; done) | (simp; omega))) | ((with_reducible refine Below.alloc ?_ ?_ _); rotate_left; focus (first | omega | (simp; done) | (simp; omega))) | (with_reducible refine Below.drew ?_) | (with_reducible refine below_drewN ?_ _) | (refine Below.trans ?_ (Below.mono (by with_reducible assumption) (by (first | omega | (simp; done) | (simp; omega)))))))⟩
            rw [HY2.out]
            exact RecordR.own_wide (RecordR.own_off HOwn.out (by (repeat (first | (with_reducible exact Out.refl _ _) | (with_reducible assumption) | ((with_reducible refine Out.setCell ?_ ?_ _); rotate_left; focus (first | (refine Or.inl ?_; (first | omega | (simp; done) | (simp; omega))) | (refine Or.inr ?_; (first | omega | (simp; done) | (simp; omega))))) | (with_reducible refine Out.alloc ?_ _) | (with_reducible refine Out.drew ?_) | (with_reducible refine Out.drewN ?_ _) | (refine Out.step ?_ (by with_reducible assumption)))))) (inR_mono (by first | omega | (simp; done) | (simp; omega)) (by first | omega | (simp; done) | (simp; omega)))
end Go.Proofs.Ytndgaakfndokgaa

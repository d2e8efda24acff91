/- Two records are alike: slices.Equal, impl.SameRecord, spec.SameRecord (printed by wip/gen/gensame.py). Records for the laws: an element of a slice of records, SameRecord of one record in two places. -/
import Derived.Test.YtndgaakfndokgaaPkRec0
import Derived.Test.YtndgaakfndokgaaImplWithin
import Derived.Test.YtndgaakfndokgaaRecord2
set_option linter.unusedSimpArgs false
set_option linter.unusedVariables false
set_option maxRecDepth 20000
namespace Go.Proofs.Ytndgaakfndokgaa
open Go.RowKit
set_option maxHeartbeats 800000 in
theorem slices_Equal_int (A A' : Option Addr) (c c' : Nat) (xs ys : List Int) (w : World) (hr : Reads w w.heap.size A (xs.map intV)) (hr' : Reads w w.heap.size A' (ys.map intV))
    (hm : xs.length ≤ 140737488351232) (hm' : ys.length ≤ 140737488351232) :
    Calls Try.prog 32 #[.slice A xs.length c, .slice A' ys.length c'] w fun e w' => e = .returned (.bool (decide (xs = ys))) ∧ Still w w' := by
  generalize hn : xs.length = n at hm
  have Hn := Lib.hid hn
  clear hn
  generalize hn' : ys.length = n' at hm'
  have Hn' := Lib.hid hn'
  clear hn'
  by_cases hl : n = n'
  · subst hl
    go_enter Try.func32, Try.ntmps32
    go_wp2
    go_loopw [13] (fun i wr => ∃ k : Nat, k ≤ n ∧ i = .int .i64 k ∧ Still w wr ∧ Hid (xs.take k = ys.take k)) (fun i _ => n - (intOf i).toNat)
    case atStart => exact ⟨0, Nat.zero_le _, rfl, Still.refl _, rfl⟩
    case round =>
      obtain ⟨k, hk, rfl, ⟨m, rfl⟩, he⟩ := hrel
      by_cases hlt : k < n
      · have hlx : k < (xs.map intV).length := by simpa [Hn.out] using hlt
        have hly : k < (ys.map intV).length := by simpa [Hn'.out] using hlt
        obtain ⟨b, off, rfl, hab, hc1⟩ := hr.at_ hlx (Below.refl _ _) (Nat.le_refl _)
        obtain ⟨b', off', rfl, hab', hc2⟩ := hr'.at_ hly (Below.refl _ _) (Nat.le_refl _)
        obtain ⟨u, hu1, hu2, hu3⟩ := map_at intV xs k hlx
        obtain ⟨v, hv1, hv2, hv3⟩ := map_at intV ys k hly
        rw [hu1] at hc1
        rw [hv1] at hc2
        have HU := Lib.hid hu3
        have HV := Lib.hid hv3
        clear hu1 hu2 hv1 hv2 hu3 hv3 hr hr'
        simp only [intV] at hc1 hc2
        go_wp2
        go_quiet (fail)
        go_wp2
        · have hne : (u != v) = true := by assumption
          go_ret
          exact ⟨ret_bool (ne_of_at HU.out HV.out (int_ne hne)).symm, by first | exact still_drewN _ _ | exact (still_drewN _ _).drewN _⟩
        · have heq : (u != v) = false := by assumption
          go_roundw
          case rel => exact ⟨k + 1, by omega, by go_num, by first | exact still_drewN _ _ | exact (still_drewN _ _).drewN _, take_step he.out HU.out HV.out (int_eq heq)⟩
          case measure => simp [intOf]; omega
      · have : k = n := by omega
        subst this
        go_wp2
        go_ret
        exact ⟨ret_bool (by simp [eq_of_take he.out Hn.out Hn'.out]), still_drewN _ _⟩
  · go_enter Try.func32, Try.ntmps32
    have hb : ((n : Int) != n') = true := by simp; omega
    go_wp2
    go_ret
    exact ⟨ret_bool (ne_of_len Hn.out Hn'.out hl).symm, Still.refl _⟩
set_option maxHeartbeats 800000 in
theorem slices_Equal_string (A A' : Option Addr) (c c' : Nat) (xs ys : List ByteArray) (w : World) (hr : Reads w w.heap.size A (xs.map strV)) (hr' : Reads w w.heap.size A' (ys.map strV))
    (hm : xs.length ≤ 140737488351232) (hm' : ys.length ≤ 140737488351232) :
    Calls Try.prog 33 #[.slice A xs.length c, .slice A' ys.length c'] w fun e w' => e = .returned (.bool (decide (xs = ys))) ∧ Still w w' := by
  generalize hn : xs.length = n at hm
  have Hn := Lib.hid hn
  clear hn
  generalize hn' : ys.length = n' at hm'
  have Hn' := Lib.hid hn'
  clear hn'
  by_cases hl : n = n'
  · subst hl
    go_enter Try.func33, Try.ntmps33
    go_wp2
    go_loopw [13] (fun i wr => ∃ k : Nat, k ≤ n ∧ i = .int .i64 k ∧ Still w wr ∧ Hid (xs.take k = ys.take k)) (fun i _ => n - (intOf i).toNat)
    case atStart => exact ⟨0, Nat.zero_le _, rfl, Still.refl _, rfl⟩
    case round =>
      obtain ⟨k, hk, rfl, ⟨m, rfl⟩, he⟩ := hrel
      by_cases hlt : k < n
      · have hlx : k < (xs.map strV).length := by simpa [Hn.out] using hlt
        have hly : k < (ys.map strV).length := by simpa [Hn'.out] using hlt
        obtain ⟨b, off, rfl, hab, hc1⟩ := hr.at_ hlx (Below.refl _ _) (Nat.le_refl _)
        obtain ⟨b', off', rfl, hab', hc2⟩ := hr'.at_ hly (Below.refl _ _) (Nat.le_refl _)
        obtain ⟨u, hu1, hu2, hu3⟩ := map_at strV xs k hlx
        obtain ⟨v, hv1, hv2, hv3⟩ := map_at strV ys k hly
        rw [hu1] at hc1
        rw [hv1] at hc2
        have HU := Lib.hid hu3
        have HV := Lib.hid hv3
        clear hu1 hu2 hv1 hv2 hu3 hv3 hr hr'
        simp only [strV] at hc1 hc2
        go_wp2
        go_quiet (fail)
        go_wp2
        · have hne : (!u.toList == v.toList) = true := by assumption
          go_ret
          exact ⟨ret_bool (ne_of_at HU.out HV.out (str_ne hne)).symm, by first | exact still_drewN _ _ | exact (still_drewN _ _).drewN _⟩
        · have heq : (!u.toList == v.toList) = false := by assumption
          go_roundw
          case rel => exact ⟨k + 1, by omega, by go_num, by first | exact still_drewN _ _ | exact (still_drewN _ _).drewN _, take_step he.out HU.out HV.out (str_eq heq)⟩
          case measure => simp [intOf]; omega
      · have : k = n := by omega
        subst this
        go_wp2
        go_ret
        exact ⟨ret_bool (by simp [eq_of_take he.out Hn.out Hn'.out]), still_drewN _ _⟩
  · go_enter Try.func33, Try.ntmps33
    have hb : ((n : Int) != n') = true := by simp; omega
    go_wp2
    go_ret
    exact ⟨ret_bool (ne_of_len Hn.out Hn'.out hl).symm, Still.refl _⟩
def sameRecord (aKind : Int) (aNums : List Int) (aTexts : List ByteArray) (bKind : Int) (bNums : List Int) (bTexts : List ByteArray) : Bool := decide (aKind = bKind) && (decide (aNums = bNums) && decide (aTexts = bTexts))
set_option maxHeartbeats 800000 in
theorem impl_SameRecord (aKind : Int) (aANums : Option Addr) (acNums : Nat) (aNums : List Int) (aATexts : Option Addr) (acTexts : Nat) (aTexts : List ByteArray) (bKind : Int) (bANums : Option Addr) (bcNums : Nat) (bNums : List Int) (bATexts : Option Addr) (bcTexts : Nat) (bTexts : List ByteArray) (w : World) (hraNums : Reads w w.heap.size aANums (aNums.map intV)) (hraTexts : Reads w w.heap.size aATexts (aTexts.map strV)) (hrbNums : Reads w w.heap.size bANums (bNums.map intV)) (hrbTexts : Reads w w.heap.size bATexts (bTexts.map strV)) (hmaNums : aNums.length ≤ 140737488351232) (hmaTexts : aTexts.length ≤ 140737488351232) (hmbNums : bNums.length ≤ 140737488351232) (hmbTexts : bTexts.length ≤ 140737488351232) :
    Calls Try.prog 12 #[.agg #[.int .i64 aKind, .slice aANums aNums.length acNums, .slice aATexts aTexts.length acTexts], .agg #[.int .i64 bKind, .slice bANums bNums.length bcNums, .slice bATexts bTexts.length bcTexts]] w fun e w' => e = .returned (.bool (sameRecord aKind aNums aTexts bKind bNums bTexts)) ∧ Below w.heap.size w w' := by
  go_enter Try.func12, Try.ntmps12
  go_wp2_with (first
  | (go_at_call 32; refine (slices_Equal_int _ _ _ _ _ _ _ (hraNums.keep (by (repeat (first | (with_reducible exact Below.refl _ _) | (with_reducible assumption) | ((with_reducible refine Below.setCell ?_ ?_ _); rotate_left; focus (first | omega | (simp; done) | (simp; omega))) | ((with_reducible refine Below.alloc ?_ ?_ _); rotate_left; focus (first | omega | (simp; done) | (simp; omega))) | (with_reducible refine Below.drew ?_) | (with_reducible refine below_drewN ?_ _) | (refine Below.trans ?_ (Below.mono (by with_reducible assumption) (by (first | omega | (simp; done) | (simp; omega)))))))) (by first | omega | (simp; done) | (simp; omega))) (hrbNums.keep (by (repeat (first | (with_reducible exact Below.refl _ _) | (with_reducible assumption) | ((with_reducible refine Below.setCell ?_ ?_ _); rotate_left; focus (first | omega | (simp; done) | (simp; omega))) | ((with_reducible refine Below.alloc ?_ ?_ _); rotate_left; focus (first | omega | (simp; done) | (simp; omega))) | (with_reducible refine Below.drew ?_) | (with_reducible refine below_drewN ?_ _) | (refine Below.trans ?_ (Below.mono (by with_reducible assumption) (by (first | omega | (simp; done) | (simp; omega)))))))) (by first | omega | (simp; done) | (simp; omega))) hmaNums hmbNums).mono ?_; rintro e w1 ⟨rfl, m, rfl⟩)
  | (go_at_call 33; refine (slices_Equal_string _ _ _ _ _ _ _ (hraTexts.keep (by (repeat (first | (with_reducible exact Below.refl _ _) | (with_reducible assumption) | ((with_reducible refine Below.setCell ?_ ?_ _); rotate_left; focus (first | omega | (simp; done) | (simp; omega))) | ((with_reducible refine Below.alloc ?_ ?_ _); rotate_left; focus (first | omega | (simp; done) | (simp; omega))) | (with_reducible refine Below.drew ?_) | (with_reducible refine below_drewN ?_ _) | (refine Below.trans ?_ (Below.mono (by with_reducible assumption) (by (first | omega | (simp; done) | (simp; omega)))))))) (by first | omega | (simp; done) | (simp; omega))) (hrbTexts.keep (by (repeat (first | (with_reducible exact Below.refl _ _) | (with_reducible assumption) | ((with_reducible refine Below.setCell ?_ ?_ _); rotate_left; focus (first | omega | (simp; done) | (simp; omega))) | ((with_reducible refine Below.alloc ?_ ?_ _); rotate_left; focus (first | omega | (simp; done) | (simp; omega))) | (with_reducible refine Below.drew ?_) | (with_reducible refine below_drewN ?_ _) | (refine Below.trans ?_ (Below.mono (by with_reducible assumption) (by (first | omega | (simp; done) | (simp; omega)))))))) (by first | omega | (simp; done) | (simp; omega))) hmaTexts hmbTexts).mono ?_; rintro e w1 ⟨rfl, m, rfl⟩))
  all_goals (go_ret; exact ⟨ret_bool (by unfold sameRecord; simp_all), by first | (repeat (first | (with_reducible exact Below.refl _ _) | (with_reducible assumption) | ((with_reducible refine Below.setCell ?_ ?_ _); rotate_left; focus (first | omega | (simp; done) | (simp; omega))) | ((with_reducible refine Below.alloc ?_ ?_ _); rotate_left; focus (first | omega | (simp; done) | (simp; omega))) | (with_reducible refine Below.drew ?_) | (with_reducible refine below_drewN ?_ _) | (refine Below.trans ?_ (Below.mono (by with_reducible assumption) (by (first | omega | (simp; done) | (simp; omega))))))) | exact (Below.refl _ _).drewN _⟩)
set_option maxHeartbeats 1600000 in
theorem spec_SameRecord (aKind : Int) (aANums : Option Addr) (acNums : Nat) (aNums : List Int) (aATexts : Option Addr) (acTexts : Nat) (aTexts : List ByteArray) (bKind : Int) (bANums : Option Addr) (bcNums : Nat) (bNums : List Int) (bATexts : Option Addr) (bcTexts : Nat) (bTexts : List ByteArray) (w : World) (hraNums : Reads w w.heap.size aANums (aNums.map intV)) (hraTexts : Reads w w.heap.size aATexts (aTexts.map strV)) (hrbNums : Reads w w.heap.size bANums (bNums.map intV)) (hrbTexts : Reads w w.heap.size bATexts (bTexts.map strV)) (hmaNums : aNums.length ≤ 140737488351232) (hmaTexts : aTexts.length ≤ 140737488351232) (hmbNums : bNums.length ≤ 140737488351232) (hmbTexts : bTexts.length ≤ 140737488351232) :
    Calls Try.prog 24 #[.agg #[.int .i64 aKind, .slice aANums aNums.length acNums, .slice aATexts aTexts.length acTexts], .agg #[.int .i64 bKind, .slice bANums bNums.length bcNums, .slice bATexts bTexts.length bcTexts]] w fun e w' => e = .returned (.bool (sameRecord aKind aNums aTexts bKind bNums bTexts)) ∧ Below w.heap.size w w' := by
  generalize hn : aNums.length = n at hmaNums
  have HaNums := Lib.hid hn
  clear hn
  generalize hn : aTexts.length = n' at hmaTexts
  have HaTexts := Lib.hid hn
  clear hn
  generalize hn : bNums.length = p at hmbNums
  have HbNums := Lib.hid hn
  clear hn
  generalize hn : bTexts.length = p' at hmbTexts
  have HbTexts := Lib.hid hn
  clear hn
  by_cases hh : aKind = bKind ∧ n = p ∧ n' = p'
  · obtain ⟨rfl, rfl, rfl⟩ := hh
    have hp : sameRecord aKind aNums aTexts aKind bNums bTexts = (decide (aNums = bNums) && decide (aTexts = bTexts)) := by simp [sameRecord]
    have HP := Lib.hid hp
    clear hp
    go_enter Try.func24, Try.ntmps24
    go_wp2
    have hbW : Below w.heap.size w ((w.alloc (.cells #[.int .i64 aKind, .slice aANums n acNums, .slice aATexts n' acTexts] 27)).alloc (.cells #[.int .i64 aKind, .slice bANums n bcNums, .slice bATexts n' bcTexts] 27)) := by (repeat (first | (with_reducible exact Below.refl _ _) | (with_reducible assumption) | ((with_reducible refine Below.setCell ?_ ?_ _); rotate_left; focus (first | omega | (simp; done) | (simp; omega))) | ((with_reducible refine Below.alloc ?_ ?_ _); rotate_left; focus (first | omega | (simp; done) | (simp; omega))) | (with_reducible refine Below.drew ?_) | (with_reducible refine below_drewN ?_ _) | (refine Below.trans ?_ (Below.mono (by with_reducible assumption) (by (first | omega | (simp; done) | (simp; omega)))))))
    have BKa : Blk ((w.alloc (.cells #[.int .i64 aKind, .slice aANums n acNums, .slice aATexts n' acTexts] 27)).alloc (.cells #[.int .i64 aKind, .slice bANums n bcNums, .slice bATexts n' bcTexts] 27)) w.heap.size 27 #[.int .i64 aKind, .slice aANums n acNums, .slice aATexts n' acTexts] := by (repeat (first | (with_reducible assumption) | ((with_reducible refine Blk.new' ?_); focus (simp; done)) | (with_reducible refine Blk.alloc ?_ _) | (with_reducible refine Blk.drew ?_) | (with_reducible refine Blk.drewN ?_ _) | ((with_reducible refine Blk.far ?_ ?_ _); rotate_left; focus (first | omega | (simp; done) | (simp; omega))) | (refine Blk.keep ?_ (by with_reducible assumption)) | (refine Blk.below ?_ (by with_reducible assumption) (by (first | omega | (simp; done) | (simp; omega))))))
    have BKb : Blk ((w.alloc (.cells #[.int .i64 aKind, .slice aANums n acNums, .slice aATexts n' acTexts] 27)).alloc (.cells #[.int .i64 aKind, .slice bANums n bcNums, .slice bATexts n' bcTexts] 27)) (w.heap.size + 1) 27 #[.int .i64 aKind, .slice bANums n bcNums, .slice bATexts n' bcTexts] := by (repeat (first | (with_reducible assumption) | ((with_reducible refine Blk.new' ?_); focus (simp; done)) | (with_reducible refine Blk.alloc ?_ _) | (with_reducible refine Blk.drew ?_) | (with_reducible refine Blk.drewN ?_ _) | ((with_reducible refine Blk.far ?_ ?_ _); rotate_left; focus (first | omega | (simp; done) | (simp; omega))) | (refine Blk.keep ?_ (by with_reducible assumption)) | (refine Blk.below ?_ (by with_reducible assumption) (by (first | omega | (simp; done) | (simp; omega))))))
    generalize (w.alloc (.cells #[.int .i64 aKind, .slice aANums n acNums, .slice aATexts n' acTexts] 27)).alloc (.cells #[.int .i64 aKind, .slice bANums n bcNums, .slice bATexts n' bcTexts] 27) = W at *
    replace hraNums := hraNums.below hbW (Nat.le_refl _)
    replace hrbNums := hrbNums.below hbW (Nat.le_refl _)
    replace hraTexts := hraTexts.below hbW (Nat.le_refl _)
    replace hrbTexts := hrbTexts.below hbW (Nat.le_refl _)
    have hca := BKa.cell
    have hcb := BKb.cell
    go_loopw [5] (fun i wr => ∃ k : Nat, k ≤ n ∧ i = .int .i64 k ∧ Still W wr ∧ Hid (aNums.take k = bNums.take k)) (fun i _ => n - (intOf i).toNat)
    case atStart => exact ⟨0, Nat.zero_le _, rfl, by first | exact Still.refl _ | exact still_drewN _ _, rfl⟩
    case round =>
      obtain ⟨k, hk, rfl, ⟨m, rfl⟩, he⟩ := hrel
      by_cases hlt : k < n
      · have hlx : k < (aNums.map intV).length := by simpa [HaNums.out] using hlt
        have hly : k < (bNums.map intV).length := by simpa [HbNums.out] using hlt
        obtain ⟨b, off, rfl, hab, hc1⟩ := hraNums.at_ hlx (Below.refl _ _) (Nat.le_refl _)
        obtain ⟨b', off', rfl, hab', hc2⟩ := hrbNums.at_ hly (Below.refl _ _) (Nat.le_refl _)
        obtain ⟨u, hu1, hu2, hu3⟩ := map_at intV aNums k hlx
        obtain ⟨v, hv1, hv2, hv3⟩ := map_at intV bNums k hly
        rw [hu1] at hc1
        rw [hv1] at hc2
        have HU := Lib.hid hu3
        have HV := Lib.hid hv3
        clear hu1 hu2 hv1 hv2 hu3 hv3
        simp only [intV] at hc1 hc2
        go_wp2
        go_quiet (fail)
        go_wp2
        · have hne : (u != v) = true := by assumption
          go_ret
          exact ⟨ret_bool (by rw [HP.out, ne_of_at HU.out HV.out (int_ne hne)]; simp), by (repeat (first | (with_reducible exact Below.refl _ _) | (with_reducible assumption) | ((with_reducible refine Below.setCell ?_ ?_ _); rotate_left; focus (first | omega | (simp; done) | (simp; omega))) | ((with_reducible refine Below.alloc ?_ ?_ _); rotate_left; focus (first | omega | (simp; done) | (simp; omega))) | (with_reducible refine Below.drew ?_) | (with_reducible refine below_drewN ?_ _) | (refine Below.trans ?_ (Below.mono (by with_reducible assumption) (by (first | omega | (simp; done) | (simp; omega)))))))⟩
        · have heq : (u != v) = false := by assumption
          go_roundw
          case rel => exact ⟨k + 1, by omega, by go_num, by first | exact still_drewN _ _ | exact (still_drewN _ _).drewN _, take_step he.out HU.out HV.out (int_eq heq)⟩
          case measure => simp [intOf]; omega
      · obtain rfl : n = k := by omega
        have HQNums := Lib.hid (eq_of_take he.out HaNums.out HbNums.out)
        clear he
        go_wp2
        go_loopw [6] (fun i wr => ∃ k : Nat, k ≤ n' ∧ i = .int .i64 k ∧ Still W wr ∧ Hid (aTexts.take k = bTexts.take k)) (fun i _ => n' - (intOf i).toNat)
        case atStart => exact ⟨0, Nat.zero_le _, rfl, by first | exact Still.refl _ | exact still_drewN _ _, rfl⟩
        case round =>
          obtain ⟨k, hk, rfl, ⟨m, rfl⟩, he⟩ := hrel
          by_cases hlt : k < n'
          · have hlx : k < (aTexts.map strV).length := by simpa [HaTexts.out] using hlt
            have hly : k < (bTexts.map strV).length := by simpa [HbTexts.out] using hlt
            obtain ⟨b, off, rfl, hab, hc1⟩ := hraTexts.at_ hlx (Below.refl _ _) (Nat.le_refl _)
            obtain ⟨b', off', rfl, hab', hc2⟩ := hrbTexts.at_ hly (Below.refl _ _) (Nat.le_refl _)
            obtain ⟨u, hu1, hu2, hu3⟩ := map_at strV aTexts k hlx
            obtain ⟨v, hv1, hv2, hv3⟩ := map_at strV bTexts k hly
            rw [hu1] at hc1
            rw [hv1] at hc2
            have HU := Lib.hid hu3
            have HV := Lib.hid hv3
            clear hu1 hu2 hv1 hv2 hu3 hv3
            simp only [strV] at hc1 hc2
            go_wp2
            go_quiet (fail)
            go_wp2
            · have hne : (!u.toList == v.toList) = true := by assumption
              go_ret
              exact ⟨ret_bool (by rw [HP.out, ne_of_at HU.out HV.out (str_ne hne)]; simp), by (repeat (first | (with_reducible exact Below.refl _ _) | (with_reducible assumption) | ((with_reducible refine Below.setCell ?_ ?_ _); rotate_left; focus (first | omega | (simp; done) | (simp; omega))) | ((with_reducible refine Below.alloc ?_ ?_ _); rotate_left; focus (first | omega | (simp; done) | (simp; omega))) | (with_reducible refine Below.drew ?_) | (with_reducible refine below_drewN ?_ _) | (refine Below.trans ?_ (Below.mono (by with_reducible assumption) (by (first | omega | (simp; done) | (simp; omega)))))))⟩
            · have heq : (!u.toList == v.toList) = false := by assumption
              go_roundw
              case rel => exact ⟨k + 1, by omega, by go_num, by first | exact still_drewN _ _ | exact (still_drewN _ _).drewN _, take_step he.out HU.out HV.out (str_eq heq)⟩
              case measure => simp [intOf]; omega
          · obtain rfl : n' = k := by omega
            have HQTexts := Lib.hid (eq_of_take he.out HaTexts.out HbTexts.out)
            clear he
            go_wp2
            go_ret
            exact ⟨ret_bool (by rw [HP.out, HQNums.out, HQTexts.out]; simp), by (repeat (first | (with_reducible exact Below.refl _ _) | (with_reducible assumption) | ((with_reducible refine Below.setCell ?_ ?_ _); rotate_left; focus (first | omega | (simp; done) | (simp; omega))) | ((with_reducible refine Below.alloc ?_ ?_ _); rotate_left; focus (first | omega | (simp; done) | (simp; omega))) | (with_reducible refine Below.drew ?_) | (with_reducible refine below_drewN ?_ _) | (refine Below.trans ?_ (Below.mono (by with_reducible assumption) (by (first | omega | (simp; done) | (simp; omega)))))))⟩
  · have hf : sameRecord aKind aNums aTexts bKind bNums bTexts = false := by
      unfold sameRecord
      by_cases h1 : aKind = bKind
      · by_cases h2 : aNums = bNums
        · by_cases h3 : aTexts = bTexts
          · exact absurd ⟨h1, by rw [← HaNums.out, ← HbNums.out, h2], by rw [← HaTexts.out, ← HbTexts.out, h3]⟩ hh
          · simp [h3]
        · simp [h2]
      · simp [h1]
    go_enter Try.func24, Try.ntmps24
    go_wp2
    all_goals first
      | (go_ret; exact ⟨ret_bool (by first | rfl | rw [hf]), by (repeat (first | (with_reducible exact Below.refl _ _) | (with_reducible assumption) | ((with_reducible refine Below.setCell ?_ ?_ _); rotate_left; focus (first | omega | (simp; done) | (simp; omega))) | ((with_reducible refine Below.alloc ?_ ?_ _); rotate_left; focus (first | omega | (simp; done) | (simp; omega))) | (with_reducible refine Below.drew ?_) | (with_reducible refine below_drewN ?_ _) | (refine Below.trans ?_ (Below.mono (by with_reducible assumption) (by (first | omega | (simp; done) | (simp; omega)))))))⟩)
      | (exfalso; apply hh; simp_all; try omega)
end Go.Proofs.Ytndgaakfndokgaa
namespace Go.Proofs.Ytndgaakfndokgaa
open Go.RowKit
theorem rec_elem {w : World} {B n c k : Nat} {A : Option Addr} {rs : List Record} {r : Record} (h : SlRd RecordR w B (.slice A n c) rs) (hr : rs[k]? = some r) :
    ∃ b off A1 c1 A2 c2, A = some ⟨b, off, none⟩ ∧ b < B ∧ SlRd intR w B (.slice A1 r.Nums.length c1) r.Nums ∧ SlRd strR w B (.slice A2 r.Texts.length c2) r.Texts ∧ w.cell? ⟨b, off + k * 3, none⟩ = some (.int .i64 r.Kind) ∧
      w.cell? ⟨b, off + k * 3 + 1, none⟩ = some (.slice A1 r.Nums.length c1) ∧ w.cell? ⟨b, off + k * 3 + 2, none⟩ = some (.slice A2 r.Texts.length c2) := by
  obtain ⟨b, off, cs, rfl, hab, hrd, hcell⟩ := h.elem hr
  obtain ⟨v1, v2, rfl, q1, q2⟩ := rd_Record hrd
  obtain ⟨A1, c1, rfl⟩ := q1.form
  obtain ⟨A2, c2, rfl⟩ := q2.form
  exact ⟨b, off, A1, c1, A2, c2, rfl, hab, q1, q2, hcell 0 _ rfl, hcell 1 _ rfl, hcell 2 _ rfl⟩
theorem sameRecord_self (k : Int) (xs : List Int) (ss : List ByteArray) : sameRecord k xs ss k xs ss = true := by unfold sameRecord; simp
theorem impl_same_rec (A1 A2 A1' A2' : Option Addr) (c1 c2 c1' c2' n1 n2 : Nat) (r : Record) (w : World) (h1 : SlRd intR w w.heap.size (.slice A1 n1 c1) r.Nums) (h2 : SlRd strR w w.heap.size (.slice A2 n2 c2) r.Texts)
    (h1' : SlRd intR w w.heap.size (.slice A1' n1 c1') r.Nums) (h2' : SlRd strR w w.heap.size (.slice A2' n2 c2') r.Texts) (hm1 : n1 ≤ 1073741824) (hm2 : n2 ≤ 1073741824) :
    Calls Try.prog 12 #[.agg #[.int .i64 r.Kind, .slice A1 n1 c1, .slice A2 n2 c2], .agg #[.int .i64 r.Kind, .slice A1' n1 c1', .slice A2' n2 c2']] w fun e w' => e = .returned (.bool true) ∧ Below w.heap.size w w' := by
  obtain ⟨e1, r1, -, -⟩ := rd_IntS h1
  obtain ⟨e2, r2, -, -, -⟩ := rd_StringS h2
  obtain ⟨-, r1', -, -⟩ := rd_IntS h1'
  obtain ⟨-, r2', -, -, -⟩ := rd_StringS h2'
  subst e1 e2
  refine (impl_SameRecord r.Kind A1 c1 r.Nums A2 c2 r.Texts r.Kind A1' c1' r.Nums A2' c2' r.Texts w r1 r2 r1' r2' (by omega) (by omega) (by omega) (by omega)).mono ?_
  rintro e w' ⟨rfl, hb⟩
  exact ⟨by rw [sameRecord_self], hb⟩
theorem spec_same_rec (A1 A2 A1' A2' : Option Addr) (c1 c2 c1' c2' n1 n2 : Nat) (r : Record) (w : World) (h1 : SlRd intR w w.heap.size (.slice A1 n1 c1) r.Nums) (h2 : SlRd strR w w.heap.size (.slice A2 n2 c2) r.Texts)
    (h1' : SlRd intR w w.heap.size (.slice A1' n1 c1') r.Nums) (h2' : SlRd strR w w.heap.size (.slice A2' n2 c2') r.Texts) (hm1 : n1 ≤ 1073741824) (hm2 : n2 ≤ 1073741824) :
    Calls Try.prog 24 #[.agg #[.int .i64 r.Kind, .slice A1 n1 c1, .slice A2 n2 c2], .agg #[.int .i64 r.Kind, .slice A1' n1 c1', .slice A2' n2 c2']] w fun e w' => e = .returned (.bool true) ∧ Below w.heap.size w w' := by
  obtain ⟨e1, r1, -, -⟩ := rd_IntS h1
  obtain ⟨e2, r2, -, -, -⟩ := rd_StringS h2
  obtain ⟨-, r1', -, -⟩ := rd_IntS h1'
  obtain ⟨-, r2', -, -, -⟩ := rd_StringS h2'
  subst e1 e2
  refine (spec_SameRecord r.Kind A1 c1 r.Nums A2 c2 r.Texts r.Kind A1' c1' r.Nums A2' c2' r.Texts w r1 r2 r1' r2' (by omega) (by omega) (by omega) (by omega)).mono ?_
  rintro e w' ⟨rfl, hb⟩
  exact ⟨by rw [sameRecord_self], hb⟩
end Go.Proofs.Ytndgaakfndokgaa

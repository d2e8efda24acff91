/- Contracts of the helpers on Record (printed by wip/gen/gen.py). Records: when a record is valid (impl's side). Records: when a record is valid; when two are alike (the reference). -/
import Derived.Test.YtndgaakfndokgaaIntS
import Derived.Test.YtndgaakfndokgaaStringS
import Derived.Test.YtndgaakfndokgaaImplWithin
set_option linter.unusedSimpArgs false
set_option linter.unusedVariables false
set_option maxRecDepth 20000
namespace Go.Proofs.Ytndgaakfndokgaa
open Go.RowKit
end Go.Proofs.Ytndgaakfndokgaa
namespace Go.Proofs.Ytndgaakfndokgaa
open Go.RowKit
def numOk (x : Int) : Bool := withinB x (-1099511627776) 1099511627776
def textOk (s : ByteArray) : Bool := decide ((s.size : Int) ≤ 300)
def recordOk (kind : Int) (nums : List Int) (texts : List ByteArray) : Bool := withinB kind 0 99 && (decide ((nums.length : Int) ≤ 40) && (decide ((texts.length : Int) ≤ 40) && (nums.all numOk && texts.all textOk)))
theorem all_numOk (xs : List Int) : xs.all numOk = true ↔ ∀ x, x ∈ xs → numOk x = true := List.all_eq_true
theorem all_textOk (xs : List ByteArray) : xs.all textOk = true ↔ ∀ x, x ∈ xs → textOk x = true := List.all_eq_true
theorem idxB_all {α : Type} {p : α → Bool} {xs : List α} : decide ((0 : Int) ≤ idxB (fun x => !p x) xs) = !xs.all p := by
  unfold idxB
  cases h : xs.findIdx? (fun x => !p x) with
  | some i =>
    obtain ⟨h1, h2, _⟩ := List.findIdx?_eq_some_iff_getElem.1 h
    have : xs.all p = false := by
      rw [List.all_eq_false]
      exact ⟨xs[i], List.getElem_mem h1, by simpa using h2⟩
    simp [this]
  | none =>
    have : xs.all p = true := by
      rw [List.all_eq_true]
      intro x hx
      have := List.findIdx?_eq_none_iff.1 h x hx
      simpa using this
    simp [this]
theorem impl_isRecord_1 (x : Int) (w : World) : Calls Try.prog 62 #[.int .i64 x] w fun e w' => e = .returned (.bool (!numOk x)) ∧ w = w' := by
  go_enter Try.func62, Try.ntmps62
  go_wp2_with (go_at_call 49; refine (impl_within _ _ _ _).mono ?_; rintro e w' ⟨rfl, rfl⟩)
  go_ret
  exact ⟨rfl, rfl⟩
theorem impl_isRecord_2 (s : ByteArray) (w : World) : Calls Try.prog 64 #[.string s] w fun e w' => e = .returned (.bool (!textOk s)) ∧ w = w' := by
  go_enter Try.func64, Try.ntmps64
  go_wp2
  all_goals (go_ret; exact ⟨ret_bool (by unfold textOk; rw [Bool.eq_iff_iff]; simp), rfl⟩)
set_option maxHeartbeats 800000 in
theorem slices_IndexFunc_int (A : Option Addr) (c : Nat) (xs : List Int) (w : World) (hr : Reads w w.heap.size A (xs.map intV)) (hm : xs.length ≤ 140737488351232) :
    Calls Try.prog 66 #[.slice A xs.length c, .func (.func 62) #[] #[]] w fun e w' => e = .returned (.int .i64 (idxB (fun x => !numOk x) xs)) ∧ w = w' := by
  generalize hn : xs.length = n at hm
  have Hn := Lib.hid hn
  clear hn
  go_enter Try.func66, Try.ntmps66
  go_wp2
  go_loop [8] (fun i => ∃ k : Nat, k ≤ n ∧ i = .int .i64 k ∧ Hid (∀ j (hj : j < xs.length), j < k → numOk xs[j] = true)) (fun i => n - (intOf i).toNat)
  case atStart => exact ⟨0, Nat.zero_le _, rfl, fun j _ h => absurd h (by omega)⟩
  case round =>
    obtain ⟨k, hk, rfl, hinv⟩ := hrel
    by_cases hlt : k < n
    · have hlx : k < xs.length := by rw [Hn.out]; exact hlt
      have hlx' : k < (xs.map intV).length := by simpa using hlx
      obtain ⟨b, off, rfl, hab, hc1⟩ := hr.at_ hlx' (Below.refl _ _) (Nat.le_refl _)
      rw [List.getElem_map] at hc1
      have HG := Lib.hid (List.getElem?_eq_getElem hlx)
      generalize xs[k]'hlx = u at hc1 HG
      simp only [intV] at hc1
      go_wp2_with fail
      refine (impl_isRecord_1 u _).mono ?_
      rintro e w2 ⟨rfl, rfl⟩
      by_cases hu : numOk u = true
      · simp only [hu, Bool.not_true]
        go_wp2
        go_round
        case rel =>
          refine ⟨k + 1, by omega, by go_num, fun j hj1 hj2 => ?_⟩
          rcases Nat.lt_or_ge j k with h | h
          · exact hinv.out j hj1 h
          · obtain rfl : j = k := by omega
            have e1 := HG.out
            rw [List.getElem?_eq_getElem hj1] at e1
            rw [Option.some.inj e1]
            exact hu
        case measure => simp [intOf]; omega
      · simp only [Bool.not_eq_true] at hu
        simp only [hu, Bool.not_false]
        go_wp2
        go_ret
        refine ⟨ret_int ?_, rfl⟩
        obtain ⟨h1, h2⟩ := List.getElem?_eq_some_iff.1 HG.out
        exact (idxB_found h1 (fun j hj => by rw [hinv.out j (by omega) hj]; rfl) (by rw [h2, hu]; rfl)).symm
    · obtain rfl : k = n := by omega
      go_wp2
      go_ret
      exact ⟨ret_int (idxB_none (fun j hj => by rw [hinv.out j hj (by rw [← Hn.out]; exact hj)]; rfl)).symm, rfl⟩
set_option maxHeartbeats 800000 in
theorem slices_IndexFunc_string (A : Option Addr) (c : Nat) (xs : List ByteArray) (w : World) (hr : Reads w w.heap.size A (xs.map strV)) (hm : xs.length ≤ 140737488351232) :
    Calls Try.prog 67 #[.slice A xs.length c, .func (.func 64) #[] #[]] w fun e w' => e = .returned (.int .i64 (idxB (fun x => !textOk x) xs)) ∧ w = w' := by
  generalize hn : xs.length = n at hm
  have Hn := Lib.hid hn
  clear hn
  go_enter Try.func67, Try.ntmps67
  go_wp2
  go_loop [8] (fun i => ∃ k : Nat, k ≤ n ∧ i = .int .i64 k ∧ Hid (∀ j (hj : j < xs.length), j < k → textOk xs[j] = true)) (fun i => n - (intOf i).toNat)
  case atStart => exact ⟨0, Nat.zero_le _, rfl, fun j _ h => absurd h (by omega)⟩
  case round =>
    obtain ⟨k, hk, rfl, hinv⟩ := hrel
    by_cases hlt : k < n
    · have hlx : k < xs.length := by rw [Hn.out]; exact hlt
      have hlx' : k < (xs.map strV).length := by simpa using hlx
      obtain ⟨b, off, rfl, hab, hc1⟩ := hr.at_ hlx' (Below.refl _ _) (Nat.le_refl _)
      rw [List.getElem_map] at hc1
      have HG := Lib.hid (List.getElem?_eq_getElem hlx)
      generalize xs[k]'hlx = u at hc1 HG
      simp only [strV] at hc1
      go_wp2_with fail
      refine (impl_isRecord_2 u _).mono ?_
      rintro e w2 ⟨rfl, rfl⟩
      by_cases hu : textOk u = true
      · simp only [hu, Bool.not_true]
        go_wp2
        go_round
        case rel =>
          refine ⟨k + 1, by omega, by go_num, fun j hj1 hj2 => ?_⟩
          rcases Nat.lt_or_ge j k with h | h
          · exact hinv.out j hj1 h
          · obtain rfl : j = k := by omega
            have e1 := HG.out
            rw [List.getElem?_eq_getElem hj1] at e1
            rw [Option.some.inj e1]
            exact hu
        case measure => simp [intOf]; omega
      · simp only [Bool.not_eq_true] at hu
        simp only [hu, Bool.not_false]
        go_wp2
        go_ret
        refine ⟨ret_int ?_, rfl⟩
        obtain ⟨h1, h2⟩ := List.getElem?_eq_some_iff.1 HG.out
        exact (idxB_found h1 (fun j hj => by rw [hinv.out j (by omega) hj]; rfl) (by rw [h2, hu]; rfl)).symm
    · obtain rfl : k = n := by omega
      go_wp2
      go_ret
      exact ⟨ret_int (idxB_none (fun j hj => by rw [hinv.out j hj (by rw [← Hn.out]; exact hj)]; rfl)).symm, rfl⟩
theorem slices_ContainsFunc_int (A : Option Addr) (c : Nat) (xs : List Int) (w : World) (hr : Reads w w.heap.size A (xs.map intV)) (hm : xs.length ≤ 140737488351232) :
    Calls Try.prog 61 #[.slice A xs.length c, .func (.func 62) #[] #[]] w fun e w' => e = .returned (.bool (!xs.all numOk)) ∧ w = w' := by
  go_enter Try.func61, Try.ntmps61
  go_wp2_with fail
  refine (slices_IndexFunc_int _ _ _ _ hr hm).mono ?_
  rintro e w2 ⟨rfl, rfl⟩
  go_wp2
  all_goals (go_ret; exact ⟨ret_bool (by rw [← idxB_all]; try simp_all), rfl⟩)
theorem slices_ContainsFunc_string (A : Option Addr) (c : Nat) (xs : List ByteArray) (w : World) (hr : Reads w w.heap.size A (xs.map strV)) (hm : xs.length ≤ 140737488351232) :
    Calls Try.prog 63 #[.slice A xs.length c, .func (.func 64) #[] #[]] w fun e w' => e = .returned (.bool (!xs.all textOk)) ∧ w = w' := by
  go_enter Try.func63, Try.ntmps63
  go_wp2_with fail
  refine (slices_IndexFunc_string _ _ _ _ hr hm).mono ?_
  rintro e w2 ⟨rfl, rfl⟩
  go_wp2
  all_goals (go_ret; exact ⟨ret_bool (by rw [← idxB_all]; try simp_all), rfl⟩)
set_option maxHeartbeats 800000 in
theorem impl_isRecord (kind : Int) (A : Option Addr) (c : Nat) (nums : List Int) (A' : Option Addr) (c' : Nat) (texts : List ByteArray) (w : World) (hr : Reads w w.heap.size A (nums.map intV)) (hr' : Reads w w.heap.size A' (texts.map strV)) (hm : nums.length ≤ 140737488351232) (hm' : texts.length ≤ 140737488351232) :
    Calls Try.prog 47 #[.agg #[.int .i64 kind, .slice A nums.length c, .slice A' texts.length c']] w fun e w' => e = .returned (.bool (recordOk kind nums texts)) ∧ Below w.heap.size w w' := by
  go_enter Try.func47, Try.ntmps47
  go_wp2_with (first
  | (go_at_call 49; refine (impl_within _ _ _ _).mono ?_; rintro e w' ⟨rfl, rfl⟩)
  | (go_at_call 61; refine (slices_ContainsFunc_int _ _ _ _ (hr.keep (by (repeat (first | (with_reducible exact Below.refl _ _) | (with_reducible assumption) | ((with_reducible refine Below.setCell ?_ ?_ _); rotate_left; focus (first | omega | (simp; done) | (simp; omega))) | ((with_reducible refine Below.alloc ?_ ?_ _); rotate_left; focus (first | omega | (simp; done) | (simp; omega))) | (with_reducible refine Below.drew ?_) | (with_reducible refine below_drewN ?_ _) | (refine Below.trans ?_ (Below.mono (by with_reducible assumption) (by (first | omega | (simp; done) | (simp; omega)))))))) (by first | omega | (simp; done) | (simp; omega))) hm).mono ?_; rintro e w' ⟨rfl, rfl⟩)
  | (go_at_call 63; refine (slices_ContainsFunc_string _ _ _ _ (hr'.keep (by (repeat (first | (with_reducible exact Below.refl _ _) | (with_reducible assumption) | ((with_reducible refine Below.setCell ?_ ?_ _); rotate_left; focus (first | omega | (simp; done) | (simp; omega))) | ((with_reducible refine Below.alloc ?_ ?_ _); rotate_left; focus (first | omega | (simp; done) | (simp; omega))) | (with_reducible refine Below.drew ?_) | (with_reducible refine below_drewN ?_ _) | (refine Below.trans ?_ (Below.mono (by with_reducible assumption) (by (first | omega | (simp; done) | (simp; omega)))))))) (by first | omega | (simp; done) | (simp; omega))) hm').mono ?_; rintro e w' ⟨rfl, rfl⟩))
  all_goals (go_ret; exact ⟨ret_bool (by unfold recordOk; (try simp only [← all_numOk, ← all_textOk] at *); generalize nums.all numOk = pp at *; generalize texts.all textOk = qq at *; simp_all <;> (intros; omega)), by (repeat (first | (with_reducible exact Below.refl _ _) | (with_reducible assumption) | ((with_reducible refine Below.setCell ?_ ?_ _); rotate_left; focus (first | omega | (simp; done) | (simp; omega))) | ((with_reducible refine Below.alloc ?_ ?_ _); rotate_left; focus (first | omega | (simp; done) | (simp; omega))) | (with_reducible refine Below.drew ?_) | (with_reducible refine below_drewN ?_ _) | (refine Below.trans ?_ (Below.mono (by with_reducible assumption) (by (first | omega | (simp; done) | (simp; omega)))))))⟩)
end Go.Proofs.Ytndgaakfndokgaa
namespace Go.Proofs.Ytndgaakfndokgaa
open Go.RowKit
theorem all_take_false {α : Type} {p : α → Bool} {xs : List α} {k : Nat} {u : α} (h : xs[k]? = some u) (hu : p u = false) : xs.all p = false := by
  rw [List.all_eq_false]
  exact ⟨u, List.mem_of_getElem? h, by simp [hu]⟩
theorem all_from {α : Type} {p : α → Bool} {xs : List α} (h : ∀ j (hj : j < xs.length), p xs[j] = true) : xs.all p = true := by
  rw [List.all_eq_true]
  intro x hx
  obtain ⟨j, hj, rfl⟩ := List.mem_iff_getElem.1 hx
  exact h j hj
set_option maxHeartbeats 1600000 in
theorem spec_RecordOk (kind : Int) (A : Option Addr) (c : Nat) (nums : List Int) (A' : Option Addr) (c' : Nat) (texts : List ByteArray) (w : World) (hr : Reads w w.heap.size A (nums.map intV)) (hr' : Reads w w.heap.size A' (texts.map strV)) (hm : nums.length ≤ 140737488351232) (hm' : texts.length ≤ 140737488351232) :
    Calls Try.prog 27 #[.agg #[.int .i64 kind, .slice A nums.length c, .slice A' texts.length c']] w fun e w' => e = .returned (.bool (recordOk kind nums texts)) ∧ Below w.heap.size w w' := by
  generalize hn : nums.length = n at hm
  have Hn := Lib.hid hn
  clear hn
  generalize hn' : texts.length = n' at hm'
  have Hn' := Lib.hid hn'
  clear hn'
  have hp : recordOk kind nums texts = (withinB kind 0 99 && (decide ((n : Int) ≤ 40) && (decide ((n' : Int) ≤ 40) && (nums.all numOk && texts.all textOk)))) := by unfold recordOk; rw [Hn.out, Hn'.out]
  have HP := Lib.hid hp
  clear hp
  by_cases hh : withinB kind 0 99 = true ∧ (n : Int) ≤ 40 ∧ (n' : Int) ≤ 40
  · obtain ⟨hk0, hn1, hn2⟩ := hh
    rw [decide_eq_true hn1, decide_eq_true hn2, hk0, Bool.true_and, Bool.true_and, Bool.true_and] at HP
    go_enter Try.func27, Try.ntmps27
    go_wp2_with (go_at_call 45; refine (spec_l01In_b hk0 _).mono ?_; rintro e w' ⟨rfl, rfl⟩)
    go_loop [3] (fun i => ∃ k : Nat, k ≤ n ∧ i = .int .i64 k ∧ Hid (∀ j (hj : j < nums.length), j < k → numOk nums[j] = true)) (fun i => n - (intOf i).toNat)
    case atStart => exact ⟨0, Nat.zero_le _, rfl, fun j _ h => absurd h (by omega)⟩
    case round =>
      obtain ⟨k, hk, rfl, hinv⟩ := hrel
      by_cases hlt : k < n
      · have hlx : k < nums.length := by rw [Hn.out]; exact hlt
        have hlx' : k < (nums.map intV).length := by simpa using hlx
        obtain ⟨b, off, rfl, hab, hc1⟩ := hr.at_ (wr := w.alloc (.cells #[.int .i64 kind, .slice A n c, .slice A' n' c'] 27)) hlx' (by (repeat (first | (with_reducible exact Below.refl _ _) | (with_reducible assumption) | ((with_reducible refine Below.setCell ?_ ?_ _); rotate_left; focus (first | omega | (simp; done) | (simp; omega))) | ((with_reducible refine Below.alloc ?_ ?_ _); rotate_left; focus (first | omega | (simp; done) | (simp; omega))) | (with_reducible refine Below.drew ?_) | (with_reducible refine below_drewN ?_ _) | (refine Below.trans ?_ (Below.mono (by with_reducible assumption) (by (first | omega | (simp; done) | (simp; omega)))))))) (Nat.le_refl _)
        rw [List.getElem_map] at hc1
        have HG := Lib.hid (List.getElem?_eq_getElem hlx)
        generalize nums[k]'hlx = u at hc1 HG
        simp only [intV] at hc1
        by_cases hu : numOk u = true
        · go_wp2_with (go_at_call 45; refine (spec_l01In_b hu _).mono ?_; rintro e w' ⟨rfl, rfl⟩)
          go_round
          case rel =>
            refine ⟨k + 1, by omega, by go_num, fun j hj1 hj2 => ?_⟩
            rcases Nat.lt_or_ge j k with h | h
            · exact hinv.out j hj1 h
            · obtain rfl : j = k := by omega
              have e1 := HG.out
              rw [List.getElem?_eq_getElem hj1] at e1
              rw [Option.some.inj e1]
              exact hu
          case measure => simp [intOf]; omega
        · simp only [Bool.not_eq_true] at hu
          go_wp2_with (go_at_call 45; refine (spec_l01In_b hu _).mono ?_; rintro e w' ⟨rfl, rfl⟩)
          go_ret
          exact ⟨ret_bool (by rw [HP.out, all_take_false HG.out hu]; simp), by (repeat (first | (with_reducible exact Below.refl _ _) | (with_reducible assumption) | ((with_reducible refine Below.setCell ?_ ?_ _); rotate_left; focus (first | omega | (simp; done) | (simp; omega))) | ((with_reducible refine Below.alloc ?_ ?_ _); rotate_left; focus (first | omega | (simp; done) | (simp; omega))) | (with_reducible refine Below.drew ?_) | (with_reducible refine below_drewN ?_ _) | (refine Below.trans ?_ (Below.mono (by with_reducible assumption) (by (first | omega | (simp; done) | (simp; omega)))))))⟩
      · obtain rfl : n = k := by omega
        have HA := Lib.hid (all_from (p := numOk) (xs := nums) fun j hj => hinv.out j hj (by rw [← Hn.out]; exact hj))
        clear hinv
        go_wp2
        go_loop [4] (fun i => ∃ k : Nat, k ≤ n' ∧ i = .int .i64 k ∧ Hid (∀ j (hj : j < texts.length), j < k → textOk texts[j] = true)) (fun i => n' - (intOf i).toNat)
        case atStart => exact ⟨0, Nat.zero_le _, rfl, fun j _ h => absurd h (by omega)⟩
        case round =>
          obtain ⟨k, hk, rfl, hinv⟩ := hrel
          by_cases hlt : k < n'
          · have hlx : k < texts.length := by rw [Hn'.out]; exact hlt
            have hlx' : k < (texts.map strV).length := by simpa using hlx
            obtain ⟨b, off, rfl, hab, hc1⟩ := hr'.at_ (wr := w.alloc (.cells #[.int .i64 kind, .slice A n c, .slice A' n' c'] 27)) hlx' (by (repeat (first | (with_reducible exact Below.refl _ _) | (with_reducible assumption) | ((with_reducible refine Below.setCell ?_ ?_ _); rotate_left; focus (first | omega | (simp; done) | (simp; omega))) | ((with_reducible refine Below.alloc ?_ ?_ _); rotate_left; focus (first | omega | (simp; done) | (simp; omega))) | (with_reducible refine Below.drew ?_) | (with_reducible refine below_drewN ?_ _) | (refine Below.trans ?_ (Below.mono (by with_reducible assumption) (by (first | omega | (simp; done) | (simp; omega)))))))) (Nat.le_refl _)
            rw [List.getElem_map] at hc1
            have HG := Lib.hid (List.getElem?_eq_getElem hlx)
            generalize texts[k]'hlx = u at hc1 HG
            simp only [strV] at hc1
            by_cases hu : textOk u = true
            · have hu' : ¬ (300 : Int) < u.size := by simp [textOk] at hu; omega
              go_wp2
              go_round
              case rel =>
                refine ⟨k + 1, by omega, by go_num, fun j hj1 hj2 => ?_⟩
                rcases Nat.lt_or_ge j k with h | h
                · exact hinv.out j hj1 h
                · obtain rfl : j = k := by omega
                  have e1 := HG.out
                  rw [List.getElem?_eq_getElem hj1] at e1
                  rw [Option.some.inj e1]
                  exact hu
              case measure => simp [intOf]; omega
            · simp only [Bool.not_eq_true] at hu
              have hu' : (300 : Int) < u.size := by simp [textOk] at hu; omega
              go_wp2
              go_ret
              exact ⟨ret_bool (by rw [HP.out, all_take_false HG.out hu]; simp), by (repeat (first | (with_reducible exact Below.refl _ _) | (with_reducible assumption) | ((with_reducible refine Below.setCell ?_ ?_ _); rotate_left; focus (first | omega | (simp; done) | (simp; omega))) | ((with_reducible refine Below.alloc ?_ ?_ _); rotate_left; focus (first | omega | (simp; done) | (simp; omega))) | (with_reducible refine Below.drew ?_) | (with_reducible refine below_drewN ?_ _) | (refine Below.trans ?_ (Below.mono (by with_reducible assumption) (by (first | omega | (simp; done) | (simp; omega)))))))⟩
          · obtain rfl : k = n' := by omega
            go_wp2
            go_ret
            exact ⟨ret_bool (by rw [HP.out, HA.out, all_from (p := textOk) (xs := texts) fun j hj => hinv.out j hj (by rw [← Hn'.out]; exact hj)]; rfl), by (repeat (first | (with_reducible exact Below.refl _ _) | (with_reducible assumption) | ((with_reducible refine Below.setCell ?_ ?_ _); rotate_left; focus (first | omega | (simp; done) | (simp; omega))) | ((with_reducible refine Below.alloc ?_ ?_ _); rotate_left; focus (first | omega | (simp; done) | (simp; omega))) | (with_reducible refine Below.drew ?_) | (with_reducible refine below_drewN ?_ _) | (refine Below.trans ?_ (Below.mono (by with_reducible assumption) (by (first | omega | (simp; done) | (simp; omega)))))))⟩
  · have hf : recordOk kind nums texts = false := by
      rw [HP.out]
      cases h1 : withinB kind 0 99
      · rfl
      · have : ¬ ((n : Int) ≤ 40 ∧ (n' : Int) ≤ 40) := fun h => hh ⟨h1, h⟩
        by_cases h2 : (n : Int) ≤ 40
        · have h3 : ¬ (n' : Int) ≤ 40 := fun h => this ⟨h2, h⟩
          simp only [decide_eq_false h3]; simp
        · simp only [decide_eq_false h2]; simp
    clear HP
    go_enter Try.func27, Try.ntmps27
    go_wp2_with (go_at_call 45; refine (spec_l01In _ _ _ _).mono ?_; rintro e w' ⟨rfl, rfl⟩)
    · go_ret
      exact ⟨ret_bool (by first | rfl | rw [hf]), by (repeat (first | (with_reducible exact Below.refl _ _) | (with_reducible assumption) | ((with_reducible refine Below.setCell ?_ ?_ _); rotate_left; focus (first | omega | (simp; done) | (simp; omega))) | ((with_reducible refine Below.alloc ?_ ?_ _); rotate_left; focus (first | omega | (simp; done) | (simp; omega))) | (with_reducible refine Below.drew ?_) | (with_reducible refine below_drewN ?_ _) | (refine Below.trans ?_ (Below.mono (by with_reducible assumption) (by (first | omega | (simp; done) | (simp; omega)))))))⟩
    all_goals first
      | (exact absurd ⟨by assumption, by omega, by omega⟩ hh)
      | (go_ret; exact ⟨ret_bool (by first | rfl | rw [hf]), by (repeat (first | (with_reducible exact Below.refl _ _) | (with_reducible assumption) | ((with_reducible refine Below.setCell ?_ ?_ _); rotate_left; focus (first | omega | (simp; done) | (simp; omega))) | ((with_reducible refine Below.alloc ?_ ?_ _); rotate_left; focus (first | omega | (simp; done) | (simp; omega))) | (with_reducible refine Below.drew ?_) | (with_reducible refine below_drewN ?_ _) | (refine Below.trans ?_ (Below.mono (by with_reducible assumption) (by (first | omega | (simp; done) | (simp; omega)))))))⟩)
end Go.Proofs.Ytndgaakfndokgaa

/- UnderPath, both sides. -/
import Derived.Test.YtbfnkfaagmjfnaaDoorSpecPath
set_option linter.unusedSimpArgs false
set_option linter.unusedVariables false
set_option maxRecDepth 20000
namespace Go.Proofs.YtbfnkfaagmjfnaaDoor
open Go.RowKit
def hasPre (s p : ByteArray) : Bool := decide (p.size ≤ s.size) && ((s.extract 0 p.size).toList == p.toList)
def underB (p q : ByteArray) : Bool := pathOk p && (pathOk q && (p.data.toList ++ [47]).isPrefixOf (q.data.toList ++ [47]))
theorem stringslite_HasPrefix (s p : ByteArray) (w : World) (hs : s.size ≤ 9223372036854775807) :
    Calls Tryd.prog 71 #[.string s, .string p] w fun e w' => e = .returned (.bool (hasPre s p)) ∧ w = w' := by
  by_cases hl : p.size ≤ s.size
  · have HD : Hid (hasPre s p = ((s.extract 0 p.size).toList == p.toList)) := Lib.hid (by unfold hasPre; rw [decide_eq_true hl]; rfl)
    have hd : decide ((p.size : Int) ≤ (s.size : Int)) = true := by simp; omega
    go_enter Tryd.func71, Tryd.ntmps71
    go_wp2
    go_ret
    exact ⟨ret_bool (by rw [HD.out]), rfl⟩
  · have HD : Hid (hasPre s p = false) := Lib.hid (by unfold hasPre; rw [decide_eq_false hl]; rfl)
    have hd : decide ((p.size : Int) ≤ (s.size : Int)) = false := by simp; omega
    go_enter Tryd.func71, Tryd.ntmps71
    go_wp2
    go_ret
    exact ⟨ret_bool (by rw [HD.out]), rfl⟩
theorem strings_HasPrefix (s p : ByteArray) (w : World) (hs : s.size ≤ 9223372036854775807) :
    Calls Tryd.prog 61 #[.string s, .string p] w fun e w' => e = .returned (.bool (hasPre s p)) ∧ w = w' := by
  go_enter Tryd.func61, Tryd.ntmps61
  go_wp2_with (go_at_call 71; refine (stringslite_HasPrefix _ _ _ hs).mono ?_; rintro e w' ⟨rfl, rfl⟩)
  go_ret
  exact ⟨rfl, rfl⟩
theorem ba_size (x : ByteArray) : x.size = x.data.toList.length := by rw [Lib.size_eq]
theorem hasPre_list (s p : ByteArray) : hasPre s p = p.data.toList.isPrefixOf s.data.toList := by
  rw [Bool.eq_iff_iff, List.isPrefixOf_iff_prefix, List.prefix_iff_eq_take]
  unfold hasPre
  rw [Bool.and_eq_true, decide_eq_true_eq, beq_iff_eq, ByteArray.toList_eq, ByteArray.toList_eq, Lib.extract_from_zero, ba_size p, ba_size s]
  constructor
  · exact fun h => h.2.symm
  · exact fun h => ⟨by have h2 := congrArg List.length h; rw [List.length_take] at h2; omega, h.symm⟩
theorem pre_iff (c : UInt8) : ∀ a b : List UInt8, (a ++ [c]).isPrefixOf (b ++ [c]) = true ↔ a = b ∨ (a.length < b.length ∧ b.take a.length = a ∧ b[a.length]? = some c)
  | [], [] => by simp [List.isPrefixOf]
  | [], x :: b => by
    have h1 : ([] ++ [c]).isPrefixOf (x :: b ++ [c]) = (c == x) := by
      show ((c == x) && List.isPrefixOf [] (b ++ [c])) = _
      rw [List.isPrefixOf_nil_left, Bool.and_true]
    rw [h1, beq_iff_eq]
    constructor
    · rintro rfl
      exact Or.inr ⟨Nat.succ_pos _, rfl, rfl⟩
    · rintro (h | ⟨-, -, h⟩)
      · cases h
      · injection h with h
        exact h.symm
  | y :: a, [] => by
    cases a <;> simp [List.isPrefixOf]
  | y :: a, x :: b => by
    have ih := pre_iff c a b
    rw [List.cons_append, List.cons_append, List.isPrefixOf_cons_cons, Bool.and_eq_true, ih, beq_iff_eq]
    simp only [List.cons.injEq, List.length_cons, List.take_succ_cons, List.getElem?_cons_succ, Nat.add_lt_add_iff_right]
    constructor
    · rintro ⟨rfl, h | ⟨h1, h2, h3⟩⟩
      · exact Or.inl ⟨rfl, h⟩
      · exact Or.inr ⟨h1, ⟨rfl, h2⟩, h3⟩
    · rintro (⟨h1, h2⟩ | ⟨h1, ⟨h2, h3⟩, h4⟩)
      · exact ⟨h1, Or.inl h2⟩
      · exact ⟨h2.symm, Or.inr ⟨h1, h3, h4⟩⟩
theorem underB_p {p q : ByteArray} (h : pathOk p = false) : underB p q = false := by unfold underB; rw [h]; rfl
theorem underB_q {p q : ByteArray} (h : pathOk q = false) : underB p q = false := by unfold underB; rw [h]; simp
theorem underB_ok {p q : ByteArray} (hp : pathOk p = true) (hq : pathOk q = true) : underB p q = (p.data.toList ++ [47]).isPrefixOf (q.data.toList ++ [47]) := by unfold underB; rw [hp, hq]; rfl
theorem impl_UnderPath (p q : ByteArray) (w : World) (hp : p.size ≤ 9223372036854775807) (hq : q.size ≤ 9223372036854775807) (hml : MaxLenInt w) :
    Calls Tryd.prog 45 #[.string p, .string q] w fun e w' => e = .returned (.bool (underB p q)) ∧ Below w.heap.size w w' := by
  have HM := Lib.hid (fun (w' : World) (hb : Below w.heap.size w w') => hml.keep hb)
  have HP := Lib.hid (fun w' (h : MaxLenInt w') => impl_isPath p w' hp h)
  have HQ := Lib.hid (fun w' (h : MaxLenInt w') => impl_isPath q w' hq h)
  cases hpp : pathOk p
  · have HD := Lib.hid (underB_p (q := q) hpp)
    rw [hpp] at HP
    clear hpp
    go_enter Tryd.func45, Tryd.ntmps45
    go_wp2_with fail
    refine (HP.out _ (HM.out _ (by (repeat (first | (with_reducible exact Below.refl _ _) | (with_reducible assumption) | ((with_reducible refine Below.setCell ?_ ?_ _); rotate_left; focus (first | omega | (simp; done) | (simp; omega))) | ((with_reducible refine Below.alloc ?_ ?_ _); rotate_left; focus (first | omega | (simp; done) | (simp; omega))) | (with_reducible refine Below.drew ?_) | (with_reducible refine below_drewN ?_ _) | (refine Below.trans ?_ (Below.mono (by with_reducible assumption) (by (first | omega | (simp; done) | (simp; omega)))))))))).mono ?_
    rintro e w1 ⟨rfl, hb1⟩
    go_wp2
    go_ret
    exact ⟨ret_bool (by rw [HD.out]), by (repeat (first | (with_reducible exact Below.refl _ _) | (with_reducible assumption) | ((with_reducible refine Below.setCell ?_ ?_ _); rotate_left; focus (first | omega | (simp; done) | (simp; omega))) | ((with_reducible refine Below.alloc ?_ ?_ _); rotate_left; focus (first | omega | (simp; done) | (simp; omega))) | (with_reducible refine Below.drew ?_) | (with_reducible refine below_drewN ?_ _) | (refine Below.trans ?_ (Below.mono (by with_reducible assumption) (by (first | omega | (simp; done) | (simp; omega)))))))⟩
  cases hqq : pathOk q
  · have HD := Lib.hid (underB_q (p := p) hqq)
    rw [hpp] at HP
    rw [hqq] at HQ
    clear hpp hqq
    go_enter Tryd.func45, Tryd.ntmps45
    go_wp2_with fail
    refine (HP.out _ (HM.out _ (by (repeat (first | (with_reducible exact Below.refl _ _) | (with_reducible assumption) | ((with_reducible refine Below.setCell ?_ ?_ _); rotate_left; focus (first | omega | (simp; done) | (simp; omega))) | ((with_reducible refine Below.alloc ?_ ?_ _); rotate_left; focus (first | omega | (simp; done) | (simp; omega))) | (with_reducible refine Below.drew ?_) | (with_reducible refine below_drewN ?_ _) | (refine Below.trans ?_ (Below.mono (by with_reducible assumption) (by (first | omega | (simp; done) | (simp; omega)))))))))).mono ?_
    rintro e w1 ⟨rfl, hb1⟩
    have hz1 := hb1.size
    go_wp2_with fail
    refine (HQ.out _ (HM.out _ (by (repeat (first | (with_reducible exact Below.refl _ _) | (with_reducible assumption) | ((with_reducible refine Below.setCell ?_ ?_ _); rotate_left; focus (first | omega | (simp; done) | (simp; omega))) | ((with_reducible refine Below.alloc ?_ ?_ _); rotate_left; focus (first | omega | (simp; done) | (simp; omega))) | (with_reducible refine Below.drew ?_) | (with_reducible refine below_drewN ?_ _) | (refine Below.trans ?_ (Below.mono (by with_reducible assumption) (by (first | omega | (simp; done) | (simp; omega)))))))))).mono ?_
    rintro e w2 ⟨rfl, hb2⟩
    go_wp2
    go_ret
    exact ⟨ret_bool (by rw [HD.out]), by (repeat (first | (with_reducible exact Below.refl _ _) | (with_reducible assumption) | ((with_reducible refine Below.setCell ?_ ?_ _); rotate_left; focus (first | omega | (simp; done) | (simp; omega))) | ((with_reducible refine Below.alloc ?_ ?_ _); rotate_left; focus (first | omega | (simp; done) | (simp; omega))) | (with_reducible refine Below.drew ?_) | (with_reducible refine below_drewN ?_ _) | (refine Below.trans ?_ (Below.mono (by with_reducible assumption) (by (first | omega | (simp; done) | (simp; omega)))))))⟩
  have hq120 := path_len hqq
  have hp120 := path_len hpp
  have HD : Hid (underB p q = hasPre (q ++ ⟨#[47]⟩) (p ++ ⟨#[47]⟩)) := Lib.hid (by
    rw [underB_ok hpp hqq, hasPre_list]
    simp)
  have hsz : (q ++ (⟨#[47]⟩ : ByteArray)).size ≤ 9223372036854775807 := by rw [ByteArray.size_append]; have : (⟨#[47]⟩ : ByteArray).size = 1 := rfl; omega
  have HH := Lib.hid (fun w' => strings_HasPrefix (q ++ ⟨#[47]⟩) (p ++ ⟨#[47]⟩) w' hsz)
  rw [hpp] at HP
  rw [hqq] at HQ
  clear hpp hqq hsz
  go_enter Tryd.func45, Tryd.ntmps45
  go_wp2_with fail
  refine (HP.out _ (HM.out _ (by (repeat (first | (with_reducible exact Below.refl _ _) | (with_reducible assumption) | ((with_reducible refine Below.setCell ?_ ?_ _); rotate_left; focus (first | omega | (simp; done) | (simp; omega))) | ((with_reducible refine Below.alloc ?_ ?_ _); rotate_left; focus (first | omega | (simp; done) | (simp; omega))) | (with_reducible refine Below.drew ?_) | (with_reducible refine below_drewN ?_ _) | (refine Below.trans ?_ (Below.mono (by with_reducible assumption) (by (first | omega | (simp; done) | (simp; omega)))))))))).mono ?_
  rintro e w1 ⟨rfl, hb1⟩
  have hz1 := hb1.size
  go_wp2_with fail
  refine (HQ.out _ (HM.out _ (by (repeat (first | (with_reducible exact Below.refl _ _) | (with_reducible assumption) | ((with_reducible refine Below.setCell ?_ ?_ _); rotate_left; focus (first | omega | (simp; done) | (simp; omega))) | ((with_reducible refine Below.alloc ?_ ?_ _); rotate_left; focus (first | omega | (simp; done) | (simp; omega))) | (with_reducible refine Below.drew ?_) | (with_reducible refine below_drewN ?_ _) | (refine Below.trans ?_ (Below.mono (by with_reducible assumption) (by (first | omega | (simp; done) | (simp; omega)))))))))).mono ?_
  rintro e w2 ⟨rfl, hb2⟩
  go_wp2_with fail
  refine (HH.out _).mono ?_
  rintro e w3 ⟨rfl, rfl⟩
  go_wp2
  go_ret
  exact ⟨ret_bool (by rw [HD.out]), by (repeat (first | (with_reducible exact Below.refl _ _) | (with_reducible assumption) | ((with_reducible refine Below.setCell ?_ ?_ _); rotate_left; focus (first | omega | (simp; done) | (simp; omega))) | ((with_reducible refine Below.alloc ?_ ?_ _); rotate_left; focus (first | omega | (simp; done) | (simp; omega))) | (with_reducible refine Below.drew ?_) | (with_reducible refine below_drewN ?_ _) | (refine Below.trans ?_ (Below.mono (by with_reducible assumption) (by (first | omega | (simp; done) | (simp; omega)))))))⟩
set_option maxHeartbeats 1600000 in
theorem spec_UnderPath (p q : ByteArray) (w : World) (hp : p.size ≤ 9223372036854775807) (hq : q.size ≤ 9223372036854775807) :
    Calls Tryd.prog 58 #[.string p, .string q] w fun e w' => e = .returned (.bool (underB p q)) ∧ Below w.heap.size w w' := by
  have HP := Lib.hid (fun w' => spec_PathOk p w' hp)
  have HQ := Lib.hid (fun w' => spec_PathOk q w' hq)
  cases hpp : pathOk p
  · have HD := Lib.hid (underB_p (q := q) hpp)
    rw [hpp] at HP
    clear hpp
    go_enter Tryd.func58, Tryd.ntmps58
    go_wp2_with fail
    refine (HP.out _).mono ?_
    rintro e w1 ⟨rfl, hb1⟩
    go_wp2
    go_ret
    exact ⟨ret_bool (by rw [HD.out]), by (repeat (first | (with_reducible exact Below.refl _ _) | (with_reducible assumption) | ((with_reducible refine Below.setCell ?_ ?_ _); rotate_left; focus (first | omega | (simp; done) | (simp; omega))) | ((with_reducible refine Below.alloc ?_ ?_ _); rotate_left; focus (first | omega | (simp; done) | (simp; omega))) | (with_reducible refine Below.drew ?_) | (with_reducible refine below_drewN ?_ _) | (refine Below.trans ?_ (Below.mono (by with_reducible assumption) (by (first | omega | (simp; done) | (simp; omega)))))))⟩
  cases hqq : pathOk q
  · have HD := Lib.hid (underB_q (p := p) hqq)
    rw [hpp] at HP
    rw [hqq] at HQ
    clear hpp hqq
    go_enter Tryd.func58, Tryd.ntmps58
    go_wp2_with fail
    refine (HP.out _).mono ?_
    rintro e w1 ⟨rfl, hb1⟩
    have hz1 := hb1.size
    go_wp2_with fail
    refine (HQ.out _).mono ?_
    rintro e w2 ⟨rfl, hb2⟩
    go_wp2
    go_ret
    exact ⟨ret_bool (by rw [HD.out]), by (repeat (first | (with_reducible exact Below.refl _ _) | (with_reducible assumption) | ((with_reducible refine Below.setCell ?_ ?_ _); rotate_left; focus (first | omega | (simp; done) | (simp; omega))) | ((with_reducible refine Below.alloc ?_ ?_ _); rotate_left; focus (first | omega | (simp; done) | (simp; omega))) | (with_reducible refine Below.drew ?_) | (with_reducible refine below_drewN ?_ _) | (refine Below.trans ?_ (Below.mono (by with_reducible assumption) (by (first | omega | (simp; done) | (simp; omega)))))))⟩
  have HI : Hid (underB p q = true ↔ (p.data.toList = q.data.toList ∨ (p.data.toList.length < q.data.toList.length ∧ q.data.toList.take p.data.toList.length = p.data.toList ∧ q.data.toList[p.data.toList.length]? = some 47))) := Lib.hid (by rw [underB_ok hpp hqq]; exact pre_iff 47 _ _)
  rw [hpp] at HP
  rw [hqq] at HQ
  have hnot : ∀ {b : Bool}, ¬ b = true → b = false := fun h => by simpa using h
  clear hpp hqq
  generalize underB p q = ub at *
  by_cases hgt : q.size < p.size
  · have HD : Hid (ub = false) := Lib.hid (hnot (fun h => by
      rcases HI.out.1 h with h | h
      · have := congrArg List.length h; rw [← ba_size, ← ba_size] at this; omega
      · have := h.1; rw [← ba_size, ← ba_size] at this; omega))
    have hd : decide ((q.size : Int) < (p.size : Int)) = true := by simp; omega
    go_enter Tryd.func58, Tryd.ntmps58
    go_wp2_with fail
    refine (HP.out _).mono ?_
    rintro e w1 ⟨rfl, hb1⟩
    have hz1 := hb1.size
    go_wp2_with fail
    refine (HQ.out _).mono ?_
    rintro e w2 ⟨rfl, hb2⟩
    go_wp2
    go_ret
    exact ⟨ret_bool (by rw [HD.out]), by (repeat (first | (with_reducible exact Below.refl _ _) | (with_reducible assumption) | ((with_reducible refine Below.setCell ?_ ?_ _); rotate_left; focus (first | omega | (simp; done) | (simp; omega))) | ((with_reducible refine Below.alloc ?_ ?_ _); rotate_left; focus (first | omega | (simp; done) | (simp; omega))) | (with_reducible refine Below.drew ?_) | (with_reducible refine below_drewN ?_ _) | (refine Below.trans ?_ (Below.mono (by with_reducible assumption) (by (first | omega | (simp; done) | (simp; omega)))))))⟩
  have hd : decide ((q.size : Int) < (p.size : Int)) = false := by simp; omega
  cases heq : q.toList == p.toList
  rotate_left
  · have HD : Hid (ub = true) := Lib.hid (HI.out.2 (Or.inl (by rw [beq_iff_eq, ByteArray.toList_eq, ByteArray.toList_eq] at heq; exact heq.symm)))
    go_enter Tryd.func58, Tryd.ntmps58
    go_wp2_with fail
    refine (HP.out _).mono ?_
    rintro e w1 ⟨rfl, hb1⟩
    have hz1 := hb1.size
    go_wp2_with fail
    refine (HQ.out _).mono ?_
    rintro e w2 ⟨rfl, hb2⟩
    go_wp2
    go_ret
    exact ⟨ret_bool (by rw [HD.out]), by (repeat (first | (with_reducible exact Below.refl _ _) | (with_reducible assumption) | ((with_reducible refine Below.setCell ?_ ?_ _); rotate_left; focus (first | omega | (simp; done) | (simp; omega))) | ((with_reducible refine Below.alloc ?_ ?_ _); rotate_left; focus (first | omega | (simp; done) | (simp; omega))) | (with_reducible refine Below.drew ?_) | (with_reducible refine below_drewN ?_ _) | (refine Below.trans ?_ (Below.mono (by with_reducible assumption) (by (first | omega | (simp; done) | (simp; omega)))))))⟩
  have HNE : Hid (¬ p.data.toList = q.data.toList) := Lib.hid (fun h => by rw [beq_eq_false_iff_ne, ByteArray.toList_eq, ByteArray.toList_eq] at heq; exact heq h.symm)
  by_cases hlt : p.size < q.size
  rotate_left
  · have HD : Hid (ub = false) := Lib.hid (hnot (fun h => by
      rcases HI.out.1 h with h | h
      · exact HNE.out h
      · have := h.1; rw [← ba_size, ← ba_size] at this; omega))
    have hd2 : decide ((p.size : Int) < (q.size : Int)) = false := by simp; omega
    go_enter Tryd.func58, Tryd.ntmps58
    go_wp2_with fail
    refine (HP.out _).mono ?_
    rintro e w1 ⟨rfl, hb1⟩
    have hz1 := hb1.size
    go_wp2_with fail
    refine (HQ.out _).mono ?_
    rintro e w2 ⟨rfl, hb2⟩
    go_wp2
    go_ret
    exact ⟨ret_bool (by rw [HD.out]), by (repeat (first | (with_reducible exact Below.refl _ _) | (with_reducible assumption) | ((with_reducible refine Below.setCell ?_ ?_ _); rotate_left; focus (first | omega | (simp; done) | (simp; omega))) | ((with_reducible refine Below.alloc ?_ ?_ _); rotate_left; focus (first | omega | (simp; done) | (simp; omega))) | (with_reducible refine Below.drew ?_) | (with_reducible refine below_drewN ?_ _) | (refine Below.trans ?_ (Below.mono (by with_reducible assumption) (by (first | omega | (simp; done) | (simp; omega)))))))⟩
  have hd2 : decide ((p.size : Int) < (q.size : Int)) = true := by simp; omega
  have HGX : Hid (q.data.toList[p.data.toList.length]? = some q[p.size]) := Lib.hid (by rw [← ba_size, List.getElem?_eq_getElem (by rw [← ba_size]; exact hlt)]; rfl)
  cases hpre : (q.extract 0 p.size).toList == p.toList
  · have HD : Hid (ub = false) := Lib.hid (hnot (fun h => by
      rcases HI.out.1 h with h | h
      · exact HNE.out h
      · rw [beq_eq_false_iff_ne, ByteArray.toList_eq, ByteArray.toList_eq, Lib.extract_from_zero, ba_size p] at hpre
        exact hpre h.2.1))
    go_enter Tryd.func58, Tryd.ntmps58
    go_wp2_with fail
    refine (HP.out _).mono ?_
    rintro e w1 ⟨rfl, hb1⟩
    have hz1 := hb1.size
    go_wp2_with fail
    refine (HQ.out _).mono ?_
    rintro e w2 ⟨rfl, hb2⟩
    go_wp2
    go_ret
    exact ⟨ret_bool (by rw [HD.out]), by (repeat (first | (with_reducible exact Below.refl _ _) | (with_reducible assumption) | ((with_reducible refine Below.setCell ?_ ?_ _); rotate_left; focus (first | omega | (simp; done) | (simp; omega))) | ((with_reducible refine Below.alloc ?_ ?_ _); rotate_left; focus (first | omega | (simp; done) | (simp; omega))) | (with_reducible refine Below.drew ?_) | (with_reducible refine below_drewN ?_ _) | (refine Below.trans ?_ (Below.mono (by with_reducible assumption) (by (first | omega | (simp; done) | (simp; omega)))))))⟩
  have HPR : Hid (q.data.toList.take p.data.toList.length = p.data.toList) := Lib.hid (by rw [beq_iff_eq, ByteArray.toList_eq, ByteArray.toList_eq, Lib.extract_from_zero, ba_size p] at hpre; exact hpre)
  have HD : Hid (((q[p.size].toNat : Int) == 47) = ub) := Lib.hid (by
    rw [Bool.eq_iff_iff, HI.out, beq_iff_eq]
    constructor
    · intro h
      refine Or.inr ⟨by rw [← ba_size, ← ba_size]; exact hlt, HPR.out, ?_⟩
      rw [HGX.out]
      have h2 : q[p.size] = 47 := UInt8.toNat_inj.1 (by show q[p.size].toNat = 47; omega)
      rw [h2]
    · rintro (h | ⟨-, -, h⟩)
      · exact absurd h HNE.out
      · rw [HGX.out] at h
        injection h with h
        rw [h]; rfl)
  go_enter Tryd.func58, Tryd.ntmps58
  go_wp2_with fail
  refine (HP.out _).mono ?_
  rintro e w1 ⟨rfl, hb1⟩
  have hz1 := hb1.size
  go_wp2_with fail
  refine (HQ.out _).mono ?_
  rintro e w2 ⟨rfl, hb2⟩
  go_wp2
  go_ret
  exact ⟨ret_bool HD.out, by (repeat (first | (with_reducible exact Below.refl _ _) | (with_reducible assumption) | ((with_reducible refine Below.setCell ?_ ?_ _); rotate_left; focus (first | omega | (simp; done) | (simp; omega))) | ((with_reducible refine Below.alloc ?_ ?_ _); rotate_left; focus (first | omega | (simp; done) | (simp; omega))) | (with_reducible refine Below.drew ?_) | (with_reducible refine below_drewN ?_ _) | (refine Below.trans ?_ (Below.mono (by with_reducible assumption) (by (first | omega | (simp; done) | (simp; omega)))))))⟩
end Go.Proofs.YtbfnkfaagmjfnaaDoor

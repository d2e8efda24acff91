/- Rings of the program: isRing, ringOpen, RingOpen. -/
import Derived.Test.YtlncnicpiadaaaaImplOpen
set_option linter.unusedSimpArgs false
set_option linter.unusedVariables false
set_option maxRecDepth 20000
namespace Go.Proofs.Ytlncnicpiadaaaa
open Go.RowKit
theorem any_snocK {α : Type} {p : α → Bool} {xs : List α} {k : Nat} {x : α} (h : xs[k]? = some x) : (xs.take (k + 1)).any p = ((xs.take k).any p || p x) := by rw [take_snoc h, List.any_append]; simp
theorem anyK_found {α : Type} {p : α → Bool} {xs : List α} {k : Nat} {y : α} (h : xs[k]? = some y) (he : p y = true) : xs.any p = true := by
  rw [List.any_eq_true]
  exact ⟨y, List.mem_of_getElem? h, he⟩
theorem anyK_none {α : Type} {p : α → Bool} {xs : List α} {k : Nat} (hk : xs.length ≤ k) (h : (xs.take k).any p = false) : xs.any p = false := by
  rw [List.take_of_length_le hk] at h; exact h
theorem any_keyOk (xs : List Int) : (xs.any fun x => !keyOk x) = !xs.all keyOk := by induction xs <;> simp_all
theorem ringOk_parts {r : KeyRing} (h : ringOk r = true) : 1 ≤ r.First ∧ r.First ≤ 1000000 ∧ 1 ≤ r.Secrets.length ∧ r.Secrets.length ≤ 12 ∧ ∀ x ∈ r.Secrets, keyOk x = true := by
  unfold ringOk at h
  simp only [Bool.and_eq_true, withinB_iff, List.all_eq_true] at h
  exact ⟨by omega, by omega, by omega, by omega, h.2.2⟩
theorem openOk_ring {r : KeyRing} {c : Cipher} (h : ringOk r = false) : openOk r c = false := by unfold openOk; rw [h]; rfl
theorem openOk_ver {r : KeyRing} {c : Cipher} (h : verOk r c = false) : openOk r c = false := by unfold openOk; rw [h]; simp
theorem openB_no {r : KeyRing} {c : Cipher} (h : openOk r c = false) : openB r c = [] := by unfold openB; rw [h]
theorem openOk_box {r : KeyRing} {c : Cipher} (h : ringOk r = true) (h1 : verOk r c = true) : openOk r c = boxOk (keyAt r c.Version) c.box := by unfold openOk; rw [h, h1]; rfl
theorem openB_box {r : KeyRing} {c : Cipher} (h : ringOk r = true) (h1 : verOk r c = true) : openB r c = boxB (keyAt r c.Version) c.box := by unfold openB boxB; rw [openOk_box h h1]; rfl
theorem ver_key {r : KeyRing} {c : Cipher} (h : ringOk r = true) (h1 : verOk r c = true) : ∃ k K : Nat, c.Version = r.First + k ∧ k < r.Secrets.length ∧ r.Secrets[k]? = some (K : Int) ∧ K ≤ 1099511627776 ∧ keyAt r c.Version = K := by
  obtain ⟨h2, h3, h4, h5, h6⟩ := ringOk_parts h
  have hv := withinB_iff.1 h1
  have hk : (c.Version - r.First).toNat < r.Secrets.length := by omega
  obtain ⟨K, hK, hK2⟩ := keyOk_nat (h6 _ (List.getElem_mem hk))
  refine ⟨(c.Version - r.First).toNat, K, by omega, hk, by rw [List.getElem?_eq_getElem hk, hK], hK2, ?_⟩
  unfold keyAt
  rw [List.getElem?_eq_getElem hk, hK]
  rfl
theorem boxB_len (K : Nat) (b : Box) : (boxB K b).length ≤ 2000 := by
  unfold boxB
  cases h : boxOk K b
  · simp
  · unfold boxOk at h
    simp only [Bool.and_eq_true, decide_eq_true_eq] at h
    simp only [mask_len]
    exact h.2.1
theorem openB_len (r : KeyRing) (c : Cipher) : (openB r c).length ≤ 2000 := by
  unfold openB
  cases h : openOk r c
  · simp
  · unfold openOk boxOk at h
    simp only [Bool.and_eq_true, decide_eq_true_eq] at h
    simp only [mask_len]
    exact h.2.2.2.1
set_option maxHeartbeats 800000 in
theorem slices_IndexFunc_key (A : Option Addr) (c : Nat) (xs : List Int) (w : World) (hr : Reads w w.heap.size A (xs.map intV)) (hm : xs.length ≤ 140737488351232) :
    Calls Try.prog 74 #[.slice A xs.length c, .func (.func 60) #[] #[]] w fun e w' => ∃ z : Int, e = .returned (.int .i64 z) ∧ decide (0 ≤ z) = xs.any (fun x => !keyOk x) ∧ w = w' := by
  have HK := Lib.hid (fun (x : Int) (w : World) (b : Bool) (hb : (!keyOk x) = b) => (hb ▸ impl_isRing_1 x w : Calls Try.prog 60 #[.int .i64 x] w fun e w' => e = .returned (.bool b) ∧ w = w'))
  obtain ⟨pr, hpr⟩ : ∃ pr : Int → Bool, pr = fun x => !keyOk x := ⟨_, rfl⟩
  have HK2 : Hid (∀ (x : Int) (w : World) (b : Bool), pr x = b → Calls Try.prog 60 #[.int .i64 x] w fun e w' => e = .returned (.bool b) ∧ w = w') := Lib.hid (by rw [hpr]; exact HK.out)
  rw [← hpr]
  clear hpr HK
  generalize hn : xs.length = n at hm
  have Hn := Lib.hid hn
  clear hn
  go_enter Try.func74, Try.ntmps74
  go_wp2
  go_loop [8] (fun i => ∃ k : Nat, k ≤ n ∧ i = .int .i64 k ∧ Hid ((xs.take k).any pr = false)) (fun i => n - (intOf i).toNat)
  case atStart => exact ⟨0, Nat.zero_le _, rfl, Lib.hid rfl⟩
  case round =>
    obtain ⟨k, hk, rfl, hinv⟩ := hrel
    by_cases hlt : k < n
    · have hlx : k < xs.length := by rw [Hn.out]; exact hlt
      obtain ⟨b, off, rfl, hab, hc1⟩ := hr.at_ (by simpa using hlx) (Below.refl _ _) (Nat.le_refl _)
      rw [List.getElem_map] at hc1
      have HG := Lib.hid (List.getElem?_eq_getElem hlx)
      generalize xs[k]'hlx = y at hc1 HG
      simp only [intV] at hc1
      clear hlx
      cases he : pr y
      · have HE := Lib.hid he
        clear he
        go_wp2_with fail
        refine (HK2.out _ _ _ HE.out).mono ?_
        rintro e w' ⟨rfl, rfl⟩
        go_wp2
        go_round
        case rel => exact ⟨k + 1, by omega, by go_num, Lib.hid (by rw [any_snocK HG.out, hinv.out, HE.out]; rfl)⟩
        case measure => simp [intOf]; omega
      · have HE := Lib.hid he
        clear he
        go_wp2_with fail
        refine (HK2.out _ _ _ HE.out).mono ?_
        rintro e w' ⟨rfl, rfl⟩
        go_wp2
        go_ret
        exact ⟨k, rfl, by rw [anyK_found HG.out HE.out]; simp, rfl⟩
    · go_wp2
      go_ret
      exact ⟨-1, rfl, by rw [anyK_none (by rw [Hn.out]; omega) hinv.out]; rfl, rfl⟩
theorem slices_ContainsFunc_key (A : Option Addr) (c : Nat) (xs : List Int) (w : World) (hr : Reads w w.heap.size A (xs.map intV)) (hm : xs.length ≤ 140737488351232) :
    Calls Try.prog 59 #[.slice A xs.length c, .func (.func 60) #[] #[]] w fun e w' => e = .returned (.bool (!xs.all keyOk)) ∧ w = w' := by
  have HC := Lib.hid (slices_IndexFunc_key A c xs w hr hm)
  rw [any_keyOk] at HC
  generalize (!xs.all keyOk) = bb at *
  generalize xs.length = n at *
  clear hr hm
  go_enter Try.func59, Try.ntmps59
  go_wp2_with fail
  refine HC.out.mono ?_
  rintro e w' ⟨z, rfl, hz, rfl⟩
  have HZ := Lib.hid hz
  clear hz
  go_wp2
  go_ret
  exact ⟨ret_bool HZ.out, rfl⟩
set_option maxHeartbeats 800000 in
theorem impl_isRing (cs : List Value) (r : KeyRing) (w : World) (h : KeyRingR.Rd w w.heap.size cs r) (hm : KeyRingR.sz r ≤ 1048576) :
    Calls Try.prog 38 #[.agg cs.toArray] w fun e w' => e = .returned (.bool (ringOk r)) ∧ Below w.heap.size w w' := by
  obtain ⟨v0, rfl, q0⟩ := rd_KeyRing h
  obtain ⟨A0, c0, rfl⟩ := q0.form
  have r0 := (rd_IntS q0).2.1
  rw [sz_KeyRing, sz_IntS] at hm
  have HF := Lib.hid (fun (w' : World) (hb : Below w.heap.size w w') => slices_ContainsFunc_key A0 c0 r.Secrets w' (r0.keep hb hb.size) (by omega))
  unfold ringOk
  cases h1 : withinB r.First 1 1000000
  · go_enter Try.func38, Try.ntmps38
    go_wp2_with (go_at_call 53; refine (impl_within _ _ _ _).mono ?_; rintro e w' ⟨rfl, rfl⟩; rw [h1])
    go_ret
    exact ⟨ret_bool (by simp), by (repeat (first | (with_reducible exact Below.refl _ _) | (with_reducible assumption) | ((with_reducible refine Below.setCell ?_ ?_ _); rotate_left; focus (first | omega | (simp; done) | (simp; omega))) | ((with_reducible refine Below.alloc ?_ ?_ _); rotate_left; focus (first | omega | (simp; done) | (simp; omega))) | (with_reducible refine Below.drew ?_) | (with_reducible refine below_drewN ?_ _) | (refine Below.trans ?_ (Below.mono (by with_reducible assumption) (by (first | omega | (simp; done) | (simp; omega)))))))⟩
  cases h2 : withinB r.Secrets.length 1 12
  · go_enter Try.func38, Try.ntmps38
    go_wp2_with (go_at_call 53; refine (impl_within _ _ _ _).mono ?_; rintro e w' ⟨rfl, rfl⟩; first | rw [h1] | rw [h2])
    go_ret
    exact ⟨ret_bool (by simp), by (repeat (first | (with_reducible exact Below.refl _ _) | (with_reducible assumption) | ((with_reducible refine Below.setCell ?_ ?_ _); rotate_left; focus (first | omega | (simp; done) | (simp; omega))) | ((with_reducible refine Below.alloc ?_ ?_ _); rotate_left; focus (first | omega | (simp; done) | (simp; omega))) | (with_reducible refine Below.drew ?_) | (with_reducible refine below_drewN ?_ _) | (refine Below.trans ?_ (Below.mono (by with_reducible assumption) (by (first | omega | (simp; done) | (simp; omega)))))))⟩
  generalize r.Secrets.all keyOk = bb at *
  go_enter Try.func38, Try.ntmps38
  go_wp2_with (first
  | (go_at_call 53; refine (impl_within _ _ _ _).mono ?_; rintro e w' ⟨rfl, rfl⟩; first | rw [h1] | rw [h2])
  | (go_at_call 59; refine (HF.out _ (by (repeat (first | (with_reducible exact Below.refl _ _) | (with_reducible assumption) | ((with_reducible refine Below.setCell ?_ ?_ _); rotate_left; focus (first | omega | (simp; done) | (simp; omega))) | ((with_reducible refine Below.alloc ?_ ?_ _); rotate_left; focus (first | omega | (simp; done) | (simp; omega))) | (with_reducible refine Below.drew ?_) | (with_reducible refine below_drewN ?_ _) | (refine Below.trans ?_ (Below.mono (by with_reducible assumption) (by (first | omega | (simp; done) | (simp; omega))))))))).mono ?_; rintro e w' ⟨rfl, rfl⟩))
  go_ret
  exact ⟨ret_bool (by simp), by (repeat (first | (with_reducible exact Below.refl _ _) | (with_reducible assumption) | ((with_reducible refine Below.setCell ?_ ?_ _); rotate_left; focus (first | omega | (simp; done) | (simp; omega))) | ((with_reducible refine Below.alloc ?_ ?_ _); rotate_left; focus (first | omega | (simp; done) | (simp; omega))) | (with_reducible refine Below.drew ?_) | (with_reducible refine below_drewN ?_ _) | (refine Below.trans ?_ (Below.mono (by with_reducible assumption) (by (first | omega | (simp; done) | (simp; omega)))))))⟩
end Go.Proofs.Ytlncnicpiadaaaa

/- spec.RenewLease. -/
import Derived.Test.YtohfnpohmieknaaDoorImplRenewL
import Derived.Test.YtohfnpohmieknaaDoorFindLease
import Derived.Test.YtohfnpohmieknaaDoorAddSpec
set_option linter.unusedSimpArgs false
set_option linter.unusedVariables false
set_option maxRecDepth 20000
namespace Go.Proofs.YtohfnpohmieknaaDoor
open Go.RowKit
/-- The copy's leases after the first k rounds. -/
def contL (ls : List Lease) (i : Nat) (l : Lease) (e : Int) (k : Nat) : List Lease := match decide (i < k) with | true => ls.set i (lendL l e) | false => ls
theorem contL_lo {ls : List Lease} {i k : Nat} {l : Lease} {e : Int} (h : ¬ i < k) : contL ls i l e k = ls := by unfold contL; rw [decide_eq_false h]
theorem contL_hi {ls : List Lease} {i k : Nat} {l : Lease} {e : Int} (h : i < k) : contL ls i l e k = ls.set i (lendL l e) := by unfold contL; rw [decide_eq_true h]
theorem contL_len (ls : List Lease) (i k : Nat) (l : Lease) (e : Int) : (contL ls i l e k).length = ls.length := by
  unfold contL
  cases decide (i < k)
  · rfl
  · simp only [List.length_set]
theorem contL_get {ls : List Lease} {i k : Nat} {l m : Lease} {e : Int} (hm : ls[k]? = some m) : (contL ls i l e k)[k]? = some m := by
  by_cases h : i < k
  · rw [contL_hi h, List.getElem?_set_ne (by omega)]; exact hm
  · rw [contL_lo h]; exact hm
set_option maxHeartbeats 6400000 in
theorem spec_RenewLease (A0 : Option Addr) (c0 : Nat) (ls : List Lease) (id now by_ : Int) (w : World) (hr : SlRd LeaseR w w.heap.size (.slice A0 ls.length c0) ls) (hm : szList LeaseR ls ≤ 1048576) :
    Calls Tryd.prog 6 #[.agg #[.slice A0 ls.length c0], .int .i64 id, .int .i64 now, .int .i64 by_] w fun e w' => ∃ A d, e = .returned (.tuple #[.agg #[.slice A ls.length d], .int .i64 (renC ls id now by_)]) ∧ w'.ownsRow w.heap.size 32 6 (.slice A ls.length d) ls.length ((renL ls id now by_).flatMap Lease.cells) ∧ Below w.heap.size w w' := by
  have hml : ls.length ≤ 1048576 := Nat.le_trans (Nat.le_add_right _ _) hm
  have HCopy := Lib.hid (fun (w' : World) (hb : Below w.heap.size w w') => spec_l09Copy A0 c0 ls w' (hr.keep hb hb.size) hml)
  have HFind := Lib.hid (fun (w' : World) (hb : Below w.heap.size w w') => spec_FindLeaseL [.slice A0 ls.length c0] ⟨ls⟩ id w' (of_rd_Book (x := ⟨ls⟩) (hr.keep hb hb.size)) (by rw [sz_Book]; exact hm))
  dsimp only at HFind
  have HCS : Hid (findB ls id = false ∨ ∃ i l, bookOk ls = true ∧ idxL ls id = ((i : Nat) : Int) ∧ ls[i]? = some l) := Lib.hid (by
    cases hok : bookOk ls
    · exact .inl (findB_bad hok)
    · rcases idxL_cases ls id with ⟨hx, -⟩ | ⟨i, l, hx, hl⟩
      · exact .inl (findB_none hx)
      · exact .inr ⟨i, l, rfl, hx, hl⟩)
  clear hr hm
  obtain ⟨n, hn⟩ : ∃ m, ls.length = m := ⟨_, rfl⟩
  rw [hn] at HCopy HFind hml ⊢
  have Hn := Lib.hid hn
  clear hn
  go_enter Tryd.func6, Tryd.ntmps6
  go_wp2_with fail
  have hbA : Below w.heap.size w ((w.alloc (.cells #[.slice A0 n c0] 26)).alloc (.cells #[.slice none 0 0] 26)) := by (repeat (first | (with_reducible exact Below.refl _ _) | (with_reducible assumption) | ((with_reducible refine Below.setCell ?_ ?_ _); rotate_left; focus (first | omega | (simp; done) | (simp; omega))) | ((with_reducible refine Below.alloc ?_ ?_ _); rotate_left; focus (first | omega | (simp; done) | (simp; omega))) | (with_reducible refine Below.drew ?_) | (with_reducible refine below_drewN ?_ _) | (refine Below.trans ?_ (Below.mono (by with_reducible assumption) (by (first | omega | (simp; done) | (simp; omega)))))))
  have B4 : Blk ((w.alloc (.cells #[.slice A0 n c0] 26)).alloc (.cells #[.slice none 0 0] 26)) w.heap.size 26 #[.slice A0 n c0] := (Blk.new' rfl).alloc _
  have B8 : Blk ((w.alloc (.cells #[.slice A0 n c0] 26)).alloc (.cells #[.slice none 0 0] 26)) (w.heap.size + 1) 26 #[.slice none 0 0] := Blk.new' (by simp)
  have hsA : Hid (w.heap.size + 2 = ((w.alloc (.cells #[.slice A0 n c0] 26)).alloc (.cells #[.slice none 0 0] 26)).heap.size) := Lib.hid (by simp)
  generalize ((w.alloc (.cells #[.slice A0 n c0] 26)).alloc (.cells #[.slice none 0 0] 26)) = wa at *
  have hs0 := hsA.out
  obtain ⟨b8, hb8⟩ : ∃ b, b = w.heap.size + 1 := ⟨_, rfl⟩
  obtain ⟨b4, hb4⟩ : ∃ b, b = w.heap.size := ⟨_, rfl⟩
  rw [← hb8] at B8 ⊢
  rw [← hb4] at B4 ⊢
  have hw8 : w.heap.size ≤ b8 := by omega
  have hl8 : b8 < wa.heap.size := by omega
  have hwa : w.heap.size ≤ wa.heap.size := by omega
  clear hb8 hb4 hs0 hsA
  have HOut : ∀ (lo : Nat) (wx : World) (A : Option Addr) (d : Nat) (xs : List Value) (u : Value), b8 < lo → w.heap.size ≤ lo → wx.ownsRow lo 32 6 (.slice A n d) n xs → World.ownsRow (wx.setCell ⟨b8, 0, none⟩ u) w.heap.size 32 6 (.slice A n d) n xs := fun lo wx A d xs u h1 h2 h => own_base (own_setCell h (by simpa using h1) u) h2
  have hb8w : ∀ (wx : World) (u : Value), Below w.heap.size w wx → Below w.heap.size w (wx.setCell ⟨b8, 0, none⟩ u) := fun wx u h => h.setCell (by simpa using hw8) u
  refine (HFind.out _ hbA).mono ?_
  rintro e w1 ⟨cs', rfl, hoL, hb1⟩
  obtain ⟨rfl, -⟩ := own_Lease hoL
  obtain ⟨f, hf⟩ : ∃ f, findR ls id = f := ⟨_, rfl⟩
  rw [hf]
  have HFr := Lib.hid hf
  clear hoL hf
  replace B4 := B4.keep hb1; replace B8 := B8.keep hb1
  have hbw1 := hbA.trans (hb1.mono hbA.size)
  have hz1 := hb1.size
  have hbX : Below w1.heap.size w1 (w1.alloc (.cells #[.int .i64 f.Id, .int .i64 f.Token, .string f.Path, .int .i64 f.Made, .int .i64 f.Ends, .int .i64 f.Limit] 32)) := by (repeat (first | (with_reducible exact Below.refl _ _) | (with_reducible assumption) | ((with_reducible refine Below.setCell ?_ ?_ _); rotate_left; focus (first | omega | (simp; done) | (simp; omega))) | ((with_reducible refine Below.alloc ?_ ?_ _); rotate_left; focus (first | omega | (simp; done) | (simp; omega))) | (with_reducible refine Below.drew ?_) | (with_reducible refine below_drewN ?_ _) | (refine Below.trans ?_ (Below.mono (by with_reducible assumption) (by (first | omega | (simp; done) | (simp; omega)))))))
  have B10 : Blk (w1.alloc (.cells #[.int .i64 f.Id, .int .i64 f.Token, .string f.Path, .int .i64 f.Made, .int .i64 f.Ends, .int .i64 f.Limit] 32)) w1.heap.size 32 #[.int .i64 f.Id, .int .i64 f.Token, .string f.Path, .int .i64 f.Made, .int .i64 f.Ends, .int .i64 f.Limit] := Blk.new' rfl
  replace B4 := B4.keep hbX; replace B8 := B8.keep hbX
  have hbw2 := hbw1.trans (hbX.mono hbw1.size)
  have hsX : Hid (w1.heap.size + 1 = (w1.alloc (.cells #[.int .i64 f.Id, .int .i64 f.Token, .string f.Path, .int .i64 f.Made, .int .i64 f.Ends, .int .i64 f.Limit] 32)).heap.size) := Lib.hid (by simp)
  clear hbw1 hb1 hbA
  go_upto_region 2 with fail
  generalize (w1.alloc (.cells #[.int .i64 f.Id, .int .i64 f.Token, .string f.Path, .int .i64 f.Made, .int .i64 f.Ends, .int .i64 f.Limit] 32)) = w2 at *
  have hsx := hsX.out
  obtain ⟨b10, hb10⟩ : ∃ b, b = w1.heap.size := ⟨_, rfl⟩
  rw [← hb10] at B10 ⊢
  have h810 : b8 < b10 := by omega
  have hz2 : wa.heap.size ≤ w2.heap.size := by omega
  clear hb10 hsx hsX hbX hz1
  have hc4 := B4.cell; have hc8 := B8.cell; have hf8 := B8.frozen; have hc10 := B10.cell
  rcases HCS.out with hF | ⟨i, l, hok, hx, hl⟩
  · have HD := Lib.hid (ren_no (now := now) (by_ := by_) (renB_bad hF))
    rw [hF]
    clear hF HFr
    go_wp2_with fail
    refine (HCopy.out _ hbw2).mono ?_
    rintro e w5 ⟨A, d, rfl, hown, hb5⟩
    replace B8 := B8.keep hb5
    have hbw5 := hbw2.trans (hb5.mono hbw2.size)
    clear hc4 hc8 hf8 hc10
    have hc8 := B8.cell; have hf8 := B8.frozen
    go_wp2_with fail
    refine bodyPost_ret (v := .tuple #[.agg #[.slice A n d], .int .i64 0]) (by simp [results, Tryd.results6, go_sem, hc8, hf8]) rfl ⟨A, d, by rw [HD.out.1], by rw [HD.out.2]; exact HOut _ _ _ _ _ _ (by omega) (by omega) hown, hb8w _ _ hbw5⟩
  have HOk := Lib.hid hok
  rw [findB_at hok hx]
  have hlf : f = l := by rw [← HFr.out]; exact findR_at hok hx hl
  subst hlf
  have hle := lease_times (book_lease hok hl)
  have HBy := Lib.hid (fun (h : withinB by_ 1 1000000000 = false) => ren_no (ls := ls) (id := id) (now := now) (renB_by h))
  have HYes := Lib.hid (fun h => ren_yes (now := now) (by_ := by_) hok hx hl h)
  have HNo := Lib.hid (fun (h : lendOk f now by_ = false) => ren_no (ls := ls) (id := id) (now := now) (by_ := by_) (by rw [renB_at hok hx hl]; exact h))
  have HIn := Lib.hid (fun (k : Nat) (m : Lease) (hm : ls[k]? = some m) => book_inj hok hm hl)
  have HId : Hid (f.Id = id) := Lib.hid (by
    obtain ⟨m, h1, h2⟩ := idxL_id hx
    rw [hl] at h1
    have : f = m := by simpa using h1
    rw [this]; exact h2)
  have HL := Lib.hid hl
  have hi := (List.getElem?_eq_some_iff.1 hl).1
  rw [Hn.out] at hi
  clear hok hx hl HFr HCS
  cases hby : withinB by_ 1 1000000000
  · have HD := Lib.hid (HBy.out hby)
    have HW := Lib.hid hby
    clear hby HBy HYes HNo hle
    go_wp2_with fail
    refine (spec_l01In_b HW.out _).mono ?_
    rintro e w' ⟨rfl, rfl⟩
    go_wp2_with fail
    refine (HCopy.out _ hbw2).mono ?_
    rintro e w5 ⟨A, d, rfl, hown, hb5⟩
    replace B8 := B8.keep hb5
    have hbw5 := hbw2.trans (hb5.mono hbw2.size)
    clear hc4 hc8 hf8 hc10
    have hc8 := B8.cell; have hf8 := B8.frozen
    go_wp2_with fail
    refine bodyPost_ret (v := .tuple #[.agg #[.slice A n d], .int .i64 0]) (by simp [results, Tryd.results6, go_sem, hc8, hf8]) rfl ⟨A, d, by rw [HD.out.1], by rw [HD.out.2]; exact HOut _ _ _ _ _ _ (by omega) (by omega) hown, hb8w _ _ hbw5⟩
  have HW := Lib.hid hby
  clear hby HBy
  obtain ⟨m0, m1, m2, m3, m4, m5⟩ := hle
  have hw1 : IntKind.i64.wrap (f.Ends - 1) = f.Ends - 1 := IntWalk.i64_in _ (by omega)
  cases hok2 : withinB now f.Made (f.Ends - 1)
  · have HD := Lib.hid (HNo.out (by unfold lendOk; rw [hok2, Bool.and_false]))
    have HW2 := Lib.hid hok2
    clear hok2 HYes HNo
    go_wp2_with fail
    refine (spec_l01In_b HW.out _).mono ?_
    rintro e w' ⟨rfl, rfl⟩
    go_wp2_with fail
    refine (spec_l01In_b HW2.out _).mono ?_
    rintro e w' ⟨rfl, rfl⟩
    go_wp2_with fail
    refine (HCopy.out _ hbw2).mono ?_
    rintro e w5 ⟨A, d, rfl, hown, hb5⟩
    replace B8 := B8.keep hb5
    have hbw5 := hbw2.trans (hb5.mono hbw2.size)
    clear hc4 hc8 hf8 hc10
    have hc8 := B8.cell; have hf8 := B8.frozen
    go_wp2_with fail
    refine bodyPost_ret (v := .tuple #[.agg #[.slice A n d], .int .i64 0]) (by simp [results, Tryd.results6, go_sem, hc8, hf8]) rfl ⟨A, d, by rw [HD.out.1], by rw [HD.out.2]; exact HOut _ _ _ _ _ _ (by omega) (by omega) hown, hb8w _ _ hbw5⟩
  have hLd : lendOk f now by_ = true := by unfold lendOk; rw [HW.out, hok2]; rfl
  have HD := Lib.hid (HYes.out hLd)
  have HW2 := Lib.hid hok2
  have hbd := lend_bd (book_lease HOk.out HL.out) hLd
  obtain ⟨n0, n1, n2, n3, n4, n5⟩ := hbd
  have hw2 : IntKind.i64.wrap (now + by_) = now + by_ := IntWalk.i64_in _ (by omega)
  have HEn : Hid (lendE f now by_ = min (now + by_) f.Limit) := Lib.hid rfl
  rw [HEn.out] at HD
  clear hok2 HYes HNo hLd n0 n1 n2 n3 n4 n5 m0 m1 m2 m3 m4 m5
  go_wp2_with fail
  refine (spec_l01In_b HW.out _).mono ?_
  rintro e w' ⟨rfl, rfl⟩
  go_wp2_with fail
  refine (spec_l01In_b HW2.out _).mono ?_
  rintro e w' ⟨rfl, rfl⟩
  go_upto_region 5 with fail
  go_cut [46] (fun s46 wx => s46 = .bool (decide (f.Limit < now + by_)) ∧ wx = w2)
  case first =>
    go_wp2_with fail
    go_meet
    exact ⟨rfl, rfl⟩
  case rest =>
  obtain ⟨rfl, hwx⟩ := hcut
  have hwx2 := hwx.symm
  subst hwx2
  clear hwx
  go_upto_if 46 with fail
  go_cut [12] (fun s12 wx => s12 = .int .i64 (min (now + by_) f.Limit) ∧ wx = w2)
  case first =>
    cases hlm : decide (f.Limit < now + by_)
    · have hlm2 : ¬ f.Limit < now + by_ := by simpa using hlm
      have e1 := Lib.hid (Int.min_eq_left (by omega : now + by_ ≤ f.Limit))
      clear hlm2
      go_wp2_with fail
      go_meet
      exact ⟨by rw [e1.out], rfl⟩
    · have hlm2 : f.Limit < now + by_ := by simpa using hlm
      have e1 := Lib.hid (Int.min_eq_right (by omega : f.Limit ≤ now + by_))
      clear hlm2
      go_wp2_with fail
      go_meet
      exact ⟨by rw [e1.out], rfl⟩
  case rest =>
  obtain ⟨rfl, hwx⟩ := hcut
  have hwx2 := hwx.symm
  subst hwx2
  clear hwx hw1 hw2
  obtain ⟨E, hE⟩ : ∃ E, min (now + by_) f.Limit = E := ⟨_, rfl⟩
  rw [hE] at HD
  rw [hE]
  clear hE HEn
  go_wp2_with fail
  refine (HCopy.out _ hbw2).mono ?_
  rintro e w5 ⟨A, d, rfl, hown, hb5⟩
  replace B8 := B8.keep hb5
  have hbw5 := hbw2.trans (hb5.mono hbw2.size)
  have hlow : ∀ q, (Value.slice A n d).ownBlock = some q → w2.heap.size ≤ q ∧ q < w5.heap.size := fun q e => hown.lt q e
  have hbY : Below w5.heap.size w5 (w5.alloc (.cells #[.slice A n d] 26)) := by (repeat (first | (with_reducible exact Below.refl _ _) | (with_reducible assumption) | ((with_reducible refine Below.setCell ?_ ?_ _); rotate_left; focus (first | omega | (simp; done) | (simp; omega))) | ((with_reducible refine Below.alloc ?_ ?_ _); rotate_left; focus (first | omega | (simp; done) | (simp; omega))) | (with_reducible refine Below.drew ?_) | (with_reducible refine below_drewN ?_ _) | (refine Below.trans ?_ (Below.mono (by with_reducible assumption) (by (first | omega | (simp; done) | (simp; omega)))))))
  have B13 : Blk (w5.alloc (.cells #[.slice A n d] 26)) w5.heap.size 26 #[.slice A n d] := Blk.new' rfl
  have hown2 := hown.alloc (.cells #[.slice A n d] 26)
  replace B8 := B8.keep hbY
  have hbw6 := hbw5.trans (hbY.mono hbw5.size)
  have hz5 := hb5.size
  clear hown hc4 hc8 hf8 hc10 B4 B10 hbw5 hb5 hbw2
  go_upto_region 8 with fail
  generalize (w5.alloc (.cells #[.slice A n d] 26)) = w6 at *
  obtain ⟨b13, hb13⟩ : ∃ b, b = w5.heap.size := ⟨_, rfl⟩
  rw [← hb13] at B13 ⊢
  have hlow2 : ∀ q, (Value.slice A n d).ownBlock = some q → wa.heap.size ≤ q ∧ q < b13 := fun q e => by have := hlow q e; omega
  have hb13w : w.heap.size ≤ b13 := by omega
  have h813 : b8 < b13 := by omega
  have hn0 : 0 < n := by omega
  obtain ⟨gg, cap, hv, hg1, hg2⟩ := hown2.form hn0
  simp only [Value.slice.injEq, true_and] at hv
  obtain ⟨rfl, rfl⟩ := hv
  have hgw := hlow2 gg rfl
  have hown3 := own_base hown2 (by omega : wa.heap.size ≤ w2.heap.size)
  clear hb13 hbY hlow hlow2 hown2 hz5 hg1 hg2
  have hown4 : w6.ownsRow wa.heap.size 32 6 (.slice (some ⟨gg, 0, none⟩) n d) n ((contL ls i f E 0).flatMap Lease.cells) := by rw [contL_lo (by omega)]; exact hown3
  clear hown3
  go_wp2_with fail
  go_loopw [14] (fun t14 wr => ∃ k : Nat, k ≤ n ∧ t14 = .int .i64 k ∧ Blk wr b8 26 #[.slice none 0 0] ∧ Blk wr b13 26 #[.slice (some ⟨gg, 0, none⟩) n d] ∧ wr.ownsRow wa.heap.size 32 6 (.slice (some ⟨gg, 0, none⟩) n d) n ((contL ls i f E k).flatMap Lease.cells) ∧ Below w.heap.size w wr) (fun t14 _ => n - (intOf t14).toNat)
  case atStart => exact ⟨0, Nat.zero_le _, rfl, B8, B13, hown4, hbw6⟩
  case round =>
    clear B8 B13 hown4 hbw6
    obtain ⟨k, hk, rfl, B8, B13, hown, hbw⟩ := hrel
    have hc13 := B13.cell; have hc8 := B8.cell; have hf8 := B8.frozen; have hl8r := B8.lt
    by_cases hlt : k < n
    · have hltI : (k : Int) < (n : Int) := by omega
      have hkl : k < ls.length := by rw [Hn.out]; exact hlt
      have hm := List.getElem?_eq_getElem hkl
      generalize ls[k]'hkl = m at hm
      have hg := contL_get (i := i) (l := f) (e := E) hm
      have hcl : Hid ((contL ls i f E k).length = n) := Lib.hid (by rw [contL_len]; exact Hn.out)
      obtain ⟨r0, -, r4, -⟩ := lease_own hown hcl.out hg
      have fz := hown.frozenAt (k * 6 + 4)
      by_cases hki : k = i
      · subst hki
        have hmf : m = f := by rw [HL.out] at hm; exact (by simpa using hm : f = m).symm
        subst hmf
        have hide : (m.Id == id) = true := by rw [HId.out]; simp
        have hst := (hown.stored (k * 6 + 4) (.int .i64 E)).1
        rw [lease_put hg, contL_lo (by omega)] at hst
        have hcc : contL ls k m E (k + 1) = ls.set k (lendL m E) := contL_hi (by omega)
        rw [← hcc] at hst
        have B8z := B8.far (p := ⟨gg, k * 6 + 4, none⟩) (by simp; omega) (.int .i64 E)
        have B13z := B13.far (p := ⟨gg, k * 6 + 4, none⟩) (by simp; omega) (.int .i64 E)
        have hbz := hbw.setCell (p := ⟨gg, k * 6 + 4, none⟩) (by simp; omega) (.int .i64 E)
        clear hm hg hcl hkl hcc
        go_wp2_with fail
        go_roundw
        case rel => exact ⟨k + 1, by omega, by go_num, B8z, B13z, hst, hbz⟩
        case measure => simp [intOf]; omega
      · have hide : (m.Id == id) = false := by
          cases h : m.Id == id
          · rfl
          · exact absurd (HIn.out k m hm (by rw [HId.out]; simpa using h)) hki
        have hcc : contL ls i f E (k + 1) = contL ls i f E k := by
          by_cases h : i < k
          · rw [contL_hi h, contL_hi (by omega)]
          · rw [contL_lo h, contL_lo (by omega)]
        rw [← hcc] at hown
        clear hm hg hcl hkl hcc
        go_wp2_with fail
        go_roundw
        case rel => exact ⟨k + 1, by omega, by go_num, B8, B13, hown, hbw⟩
        case measure => simp [intOf]; omega
    · obtain rfl : k = n := by omega
      rw [contL_hi hi] at hown
      go_wp2_with fail
      refine bodyPost_ret (v := .tuple #[.agg #[.slice (some ⟨gg, 0, none⟩) k d], .int .i64 E]) (by simp [results, Tryd.results6, go_sem, hc8, hf8]) rfl ⟨_, d, by rw [HD.out.1], by rw [HD.out.2]; exact HOut _ _ _ _ _ _ hl8 hwa hown, hb8w _ _ hbw⟩
end Go.Proofs.YtohfnpohmieknaaDoor

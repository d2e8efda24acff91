/- Rewrap of the reference. -/
import Derived.Test.YtlncnicpiadaaaaImplWrap
import Derived.Test.YtlncnicpiadaaaaSpecROpen
set_option linter.unusedSimpArgs false
set_option linter.unusedVariables false
set_option maxRecDepth 20000
namespace Go.Proofs.Ytlncnicpiadaaaa
open Go.RowKit
set_option maxHeartbeats 1600000 in
theorem spec_SealBox (K N : Nat) (A : Option Addr) (c : Nat) (xs : List UInt8) (w : World) (hr : Reads w w.heap.size A (xs.map byteV)) (hK : K ≤ 1099511627776) (hN : N ≤ 1099511627776) (hm : xs.length ≤ 2000) :
    Calls Try.prog 51 #[.int .i64 K, .int .i64 N, .slice A xs.length c] w fun e w' => ∃ A1 c1, e = .returned (.tuple #[.agg #[.int .i64 N, .slice A1 xs.length c1, .int .i64 (tagL K N (maskB K N xs))], .bool true]) ∧ w'.ownsRow w.heap.size 5 1 (.slice A1 xs.length c1) xs.length ((maskB K N xs).map byteV) ∧ Below w.heap.size w w' := by
  have HC := Lib.hid (fun (w' : World) (hb : Below w.heap.size w w') => spec_l04Mask K N A c xs w' (hr.keep hb hb.size) hK hN hm)
  have HT := Lib.hid (fun (A1 : Option Addr) (c1 : Nat) (w' : World) (h : Reads w' w'.heap.size A1 ((maskB K N xs).map byteV)) => spec_TagOf K N A1 c1 (maskB K N xs) w' h hK hN (by rw [mask_len]; omega))
  have HK1 := Lib.hid (fun w => spec_l04Key_b (keyOk_of hK) w)
  have HK2 := Lib.hid (fun w => spec_l04Key_b (keyOk_of hN) w)
  have hd : decide ((2000 : Int) < (xs.length : Int)) = false := by simp; omega
  rw [mask_len] at HT
  generalize tagL K N (maskB K N xs) = tg at *
  generalize maskB K N xs = ys at *
  generalize xs.length = n at *
  clear hr
  go_enter Try.func51, Try.ntmps51
  go_wp2_with (go_at_call 55; first | (with_reducible refine (HK1.out _).mono ?_; rintro e w' ⟨rfl, rfl⟩) | (with_reducible refine (HK2.out _).mono ?_; rintro e w' ⟨rfl, rfl⟩))
  refine (HC.out _ (by (repeat (first | (with_reducible exact Below.refl _ _) | (with_reducible assumption) | ((with_reducible refine Below.setCell ?_ ?_ _); rotate_left; focus (first | omega | (simp; done) | (simp; omega))) | ((with_reducible refine Below.alloc ?_ ?_ _); rotate_left; focus (first | omega | (simp; done) | (simp; omega))) | (with_reducible refine Below.drew ?_) | (with_reducible refine below_drewN ?_ _) | (refine Below.trans ?_ (Below.mono (by with_reducible assumption) (by (first | omega | (simp; done) | (simp; omega))))))))).mono ?_
  rintro e w1 ⟨A1, c1, rfl, ho1, hb1⟩
  have hz1 := hb1.size; try simp at hz1
  have BK1 := (by (repeat (first | (with_reducible assumption) | ((with_reducible refine Blk.new' ?_); focus (simp; done)) | (with_reducible refine Blk.alloc ?_ _) | (with_reducible refine Blk.drew ?_) | (with_reducible refine Blk.drewN ?_ _) | ((with_reducible refine Blk.far ?_ ?_ _); rotate_left; focus (first | omega | (simp; done) | (simp; omega))) | (refine Blk.keep ?_ (by with_reducible assumption)) | (refine Blk.below ?_ (by with_reducible assumption) (by (first | omega | (simp; done) | (simp; omega)))))) : Blk w1 w.heap.size 36 #[.int .i64 0, .slice none 0 0, .int .i64 0]); have hc1 := BK1.cell; have hf1 := BK1.frozen
  go_wp2_with fail
  refine (HT.out _ _ _ (Reads.of_own ho1)).mono ?_
  rintro e w2 ⟨rfl, hb2⟩
  have hz2 := hb2.size; try simp at hz2
  replace BK1 := BK1.keep hb2; replace hc1 := BK1.cell; replace hf1 := BK1.frozen
  go_wp2
  refine bodyPost_ret (v := .tuple #[.agg #[.int .i64 N, .slice A1 n c1, .int .i64 tg], .bool true]) (by simp [results, Try.results51, go_sem, hc1, hf1]) rfl ⟨A1, c1, rfl, ?_, by (repeat (first | (with_reducible exact Below.refl _ _) | (with_reducible assumption) | ((with_reducible refine Below.setCell ?_ ?_ _); rotate_left; focus (first | omega | (simp; done) | (simp; omega))) | ((with_reducible refine Below.alloc ?_ ?_ _); rotate_left; focus (first | omega | (simp; done) | (simp; omega))) | (with_reducible refine Below.drew ?_) | (with_reducible refine below_drewN ?_ _) | (refine Below.trans ?_ (Below.mono (by with_reducible assumption) (by (first | omega | (simp; done) | (simp; omega)))))))⟩
  refine own_base (base := w.heap.size + 1) ?_ (by omega)
  have ho1' : w1.ownsRow (w.heap.size + 1) 5 1 (.slice A1 n c1) n (ys.map byteV) := by simpa using ho1
  (repeat (first | (with_reducible exact own_below ho1' hb2) | ((with_reducible refine own_setCell ?_ ?_ _); rotate_left; focus (first | omega | (simp; done) | (simp; omega))) | (with_reducible refine World.ownsRow.alloc ?_ _) | (with_reducible refine own_drew ?_) | (with_reducible refine own_drewN ?_ _) | (refine own_below ?_ (by with_reducible assumption))))
set_option maxHeartbeats 1600000 in
theorem spec_SealBox_no (K : Nat) (x : Int) (A : Option Addr) (c : Nat) (n : Nat) (w : World) (hK : K ≤ 1099511627776) (hx : keyOk x = false) (hm : n ≤ 2000) :
    Calls Try.prog 51 #[.int .i64 K, .int .i64 x, .slice A n c] w fun e w' => e = .returned (.tuple #[.agg #[.int .i64 0, .slice none 0 0, .int .i64 0], .bool false]) ∧ Below w.heap.size w w' := by
  have HK1 := Lib.hid (fun w => spec_l04Key_b (keyOk_of hK) w)
  have HK2 := Lib.hid (fun w => spec_l04Key_b hx w)
  have BK : Blk (w.alloc (.cells #[.int .i64 0, .slice none 0 0, .int .i64 0] 36)) w.heap.size 36 #[.int .i64 0, .slice none 0 0, .int .i64 0] := by (repeat (first | (with_reducible assumption) | ((with_reducible refine Blk.new' ?_); focus (simp; done)) | (with_reducible refine Blk.alloc ?_ _) | (with_reducible refine Blk.drew ?_) | (with_reducible refine Blk.drewN ?_ _) | ((with_reducible refine Blk.far ?_ ?_ _); rotate_left; focus (first | omega | (simp; done) | (simp; omega))) | (refine Blk.keep ?_ (by with_reducible assumption)) | (refine Blk.below ?_ (by with_reducible assumption) (by (first | omega | (simp; done) | (simp; omega))))))
  have hc := BK.cell
  have hf := BK.frozen
  go_enter Try.func51, Try.ntmps51
  go_wp2_with (go_at_call 55; first | (with_reducible refine (HK1.out _).mono ?_; rintro e w' ⟨rfl, rfl⟩) | (with_reducible refine (HK2.out _).mono ?_; rintro e w' ⟨rfl, rfl⟩))
  refine bodyPost_ret (v := .tuple #[.agg #[.int .i64 0, .slice none 0 0, .int .i64 0], .bool false]) (by simp [results, Try.results51, go_sem, hc, hf]) rfl ⟨rfl, by (repeat (first | (with_reducible exact Below.refl _ _) | (with_reducible assumption) | ((with_reducible refine Below.setCell ?_ ?_ _); rotate_left; focus (first | omega | (simp; done) | (simp; omega))) | ((with_reducible refine Below.alloc ?_ ?_ _); rotate_left; focus (first | omega | (simp; done) | (simp; omega))) | (with_reducible refine Below.drew ?_) | (with_reducible refine below_drewN ?_ _) | (refine Below.trans ?_ (Below.mono (by with_reducible assumption) (by (first | omega | (simp; done) | (simp; omega)))))))⟩
set_option maxHeartbeats 1600000 in
theorem spec_RingSeal (cs : List Value) (r : KeyRing) (N : Nat) (A : Option Addr) (c : Nat) (xs : List UInt8) (w : World) (h : KeyRingR.Rd w w.heap.size cs r) (m0 : KeyRingR.sz r ≤ 1048576) (hr : Reads w w.heap.size A (xs.map byteV)) (hN : N ≤ 1099511627776) (hm : xs.length ≤ 2000) (hok : ringOk r = true) :
    Calls Try.prog 24 #[.agg cs.toArray, .int .i64 N, .slice A xs.length c] w fun e w' => ∃ A1 c1, e = .returned (.tuple #[.agg #[.int .i64 (r.First + ((r.Secrets.length : Int) - 1)), .int .i64 N, .slice A1 xs.length c1, .int .i64 (tagL (lastK r) N (maskB (lastK r) N xs))], .bool true]) ∧ w'.ownsRow w.heap.size 5 1 (.slice A1 xs.length c1) xs.length ((maskB (lastK r) N xs).map byteV) ∧ Below w.heap.size w w' := by
  obtain ⟨v0, rfl, q0⟩ := rd_KeyRing h
  obtain ⟨A0, c0, rfl⟩ := q0.form
  have r0 := (rd_IntS q0).2.1
  have HR := Lib.hid (fun (w' : World) (hb : Below w.heap.size w w') => spec_RingOk [.int .i64 r.First, .slice A0 r.Secrets.length c0] r w' (KeyRingR.rd_keep h hb hb.size) m0)
  rw [hok] at HR
  obtain ⟨p1, p2, p3, p4, -⟩ := ringOk_parts hok
  obtain ⟨k, K, hk1, hk3, hK, hk4⟩ := last_key hok
  rw [hk4]
  have HS := Lib.hid (fun (w' : World) (hb : Below w.heap.size w w') => spec_SealBox K N A c xs w' (hr.keep hb hb.size) hK hN hm)
  generalize tagL K N (maskB K N xs) = tg at *
  generalize maskB K N xs = ys at *
  generalize xs.length = n at *
  clear hr
  obtain ⟨b, off, rfl, hab, hcs⟩ := r0.get (u := .int .i64 (K : Int)) (by rw [List.getElem?_map, hk3]; rfl) (Below.refl _ _) (Nat.le_refl _)
  have HCW := Lib.hid (fun (w' : World) (hb : Below w.heap.size w w') => (hb.cell (p := ⟨b, off + k, none⟩) hab).trans hcs)
  have hkk : (r.Secrets.length : Int) - 1 = (k : Int) := by omega
  have hk12 : (k : Int) ≤ 11 := by omega
  have hk0 : (0 : Int) ≤ (k : Int) := by omega
  rw [hkk]
  have hki : (k : Int) < (r.Secrets.length : Int) := by omega
  have hwr : IntKind.i64.wrap (r.First + (k : Int)) = r.First + (k : Int) := IntWalk.i64_in _ (by omega)
  have HK1 := Lib.hid hk1
  clear hk1
  go_enter Try.func24, Try.ntmps24
  go_wp2_with fail
  refine (HR.out _ (by (repeat (first | (with_reducible exact Below.refl _ _) | (with_reducible assumption) | ((with_reducible refine Below.setCell ?_ ?_ _); rotate_left; focus (first | omega | (simp; done) | (simp; omega))) | ((with_reducible refine Below.alloc ?_ ?_ _); rotate_left; focus (first | omega | (simp; done) | (simp; omega))) | (with_reducible refine Below.drew ?_) | (with_reducible refine below_drewN ?_ _) | (refine Below.trans ?_ (Below.mono (by with_reducible assumption) (by (first | omega | (simp; done) | (simp; omega))))))))).mono ?_
  rintro e w1 ⟨rfl, hb1⟩
  have hz1 := hb1.size; try simp at hz1
  have BK0 := (by (repeat (first | (with_reducible assumption) | ((with_reducible refine Blk.new' ?_); focus (simp; done)) | (with_reducible refine Blk.alloc ?_ _) | (with_reducible refine Blk.drew ?_) | (with_reducible refine Blk.drewN ?_ _) | ((with_reducible refine Blk.far ?_ ?_ _); rotate_left; focus (first | omega | (simp; done) | (simp; omega))) | (refine Blk.keep ?_ (by with_reducible assumption)) | (refine Blk.below ?_ (by with_reducible assumption) (by (first | omega | (simp; done) | (simp; omega)))))) : Blk w1 w.heap.size 34 #[.int .i64 r.First, .slice (some ⟨b, off, none⟩) r.Secrets.length c0]); have hc0 := BK0.cell; have hf0 := BK0.frozen
  have BK1 := (by (repeat (first | (with_reducible assumption) | ((with_reducible refine Blk.new' ?_); focus (simp; done)) | (with_reducible refine Blk.alloc ?_ _) | (with_reducible refine Blk.drew ?_) | (with_reducible refine Blk.drewN ?_ _) | ((with_reducible refine Blk.far ?_ ?_ _); rotate_left; focus (first | omega | (simp; done) | (simp; omega))) | (refine Blk.keep ?_ (by with_reducible assumption)) | (refine Blk.below ?_ (by with_reducible assumption) (by (first | omega | (simp; done) | (simp; omega)))))) : Blk w1 (w.heap.size + 1) 38 #[.int .i64 0, .int .i64 0, .slice none 0 0, .int .i64 0]); have hc1 := BK1.cell; have hf1 := BK1.frozen
  have hcw1 := HCW.out w1 (by (repeat (first | (with_reducible exact Below.refl _ _) | (with_reducible assumption) | ((with_reducible refine Below.setCell ?_ ?_ _); rotate_left; focus (first | omega | (simp; done) | (simp; omega))) | ((with_reducible refine Below.alloc ?_ ?_ _); rotate_left; focus (first | omega | (simp; done) | (simp; omega))) | (with_reducible refine Below.drew ?_) | (with_reducible refine below_drewN ?_ _) | (refine Below.trans ?_ (Below.mono (by with_reducible assumption) (by (first | omega | (simp; done) | (simp; omega))))))))
  go_wp2_with fail
  refine (HS.out _ (by (repeat (first | (with_reducible exact Below.refl _ _) | (with_reducible assumption) | ((with_reducible refine Below.setCell ?_ ?_ _); rotate_left; focus (first | omega | (simp; done) | (simp; omega))) | ((with_reducible refine Below.alloc ?_ ?_ _); rotate_left; focus (first | omega | (simp; done) | (simp; omega))) | (with_reducible refine Below.drew ?_) | (with_reducible refine below_drewN ?_ _) | (refine Below.trans ?_ (Below.mono (by with_reducible assumption) (by (first | omega | (simp; done) | (simp; omega))))))))).mono ?_
  rintro e w2 ⟨D, d, rfl, ho, hb2⟩
  have hz2 := hb2.size; try simp at hz2
  replace BK0 := BK0.keep hb2; replace hc0 := BK0.cell; replace hf0 := BK0.frozen
  replace BK1 := BK1.keep hb2; replace hc1 := BK1.cell; replace hf1 := BK1.frozen
  have hcP := BK1.cell; have hfP := BK1.frozen
  have BKP := BK1
  replace BK0 := BK0.alloc (.cells #[.int .i64 (N : Int), .slice D n d, .int .i64 tg] 36)
  replace BK1 := BK1.alloc (.cells #[.int .i64 (N : Int), .slice D n d, .int .i64 tg] 36)
  replace hc0 := BK0.cell; replace hf0 := BK0.frozen; replace hc1 := BK1.cell; replace hf1 := BK1.frozen
  have hl0 : w.heap.size < w2.heap.size := by omega
  have hl1 : w.heap.size + 1 < w2.heap.size := by omega
  go_wp2
  have hcF := (((((BKP.set_ 0 (.int .i64 (r.First + (k : Int)))).set_ 1 (.int .i64 (N : Int))).set_ 2 (.slice D n d)).set_ 3 (.int .i64 tg)).alloc (.cells #[.int .i64 (N : Int), .slice D n d, .int .i64 tg] 36)).cell
  refine bodyPost_ret (v := .tuple #[.agg #[.int .i64 (r.First + (k : Int)), .int .i64 N, .slice D n d, .int .i64 tg], .bool true]) (by simp [results, Try.results24, go_sem, hcF]) rfl ⟨D, d, rfl, ?_, by (repeat (first | (with_reducible exact Below.refl _ _) | (with_reducible assumption) | ((with_reducible refine Below.setCell ?_ ?_ _); rotate_left; focus (first | omega | (simp; done) | (simp; omega))) | ((with_reducible refine Below.alloc ?_ ?_ _); rotate_left; focus (first | omega | (simp; done) | (simp; omega))) | (with_reducible refine Below.drew ?_) | (with_reducible refine below_drewN ?_ _) | (refine Below.trans ?_ (Below.mono (by with_reducible assumption) (by (first | omega | (simp; done) | (simp; omega)))))))⟩
  refine own_base (base := w1.heap.size) ?_ (by omega)
  (repeat (first | (with_reducible exact ho) | ((with_reducible refine own_setCell ?_ ?_ _); rotate_left; focus (first | omega | (simp; done) | (simp; omega))) | (with_reducible refine World.ownsRow.alloc ?_ _) | (with_reducible refine own_drew ?_) | (with_reducible refine own_drewN ?_ _) | (refine own_below ?_ (by with_reducible assumption))))
set_option maxHeartbeats 1600000 in
theorem spec_RingSeal_no (cs : List Value) (r : KeyRing) (x : Int) (A : Option Addr) (c : Nat) (n : Nat) (w : World) (h : KeyRingR.Rd w w.heap.size cs r) (m0 : KeyRingR.sz r ≤ 1048576) (hx : keyOk x = false) (hm : n ≤ 2000) (hok : ringOk r = true) :
    Calls Try.prog 24 #[.agg cs.toArray, .int .i64 x, .slice A n c] w fun e w' => e = .returned (.tuple #[.agg #[.int .i64 0, .int .i64 0, .slice none 0 0, .int .i64 0], .bool false]) ∧ Below w.heap.size w w' := by
  obtain ⟨v0, rfl, q0⟩ := rd_KeyRing h
  obtain ⟨A0, c0, rfl⟩ := q0.form
  have r0 := (rd_IntS q0).2.1
  have HR := Lib.hid (fun (w' : World) (hb : Below w.heap.size w w') => spec_RingOk [.int .i64 r.First, .slice A0 r.Secrets.length c0] r w' (KeyRingR.rd_keep h hb hb.size) m0)
  rw [hok] at HR
  obtain ⟨p1, p2, p3, p4, -⟩ := ringOk_parts hok
  obtain ⟨k, K, hk1, hk3, hK, hk4⟩ := last_key hok
  have HS := Lib.hid (fun (w' : World) => spec_SealBox_no K x A c n w' hK hx hm)
  obtain ⟨b, off, rfl, hab, hcs⟩ := r0.get (u := .int .i64 (K : Int)) (by rw [List.getElem?_map, hk3]; rfl) (Below.refl _ _) (Nat.le_refl _)
  have HCW := Lib.hid (fun (w' : World) (hb : Below w.heap.size w w') => (hb.cell (p := ⟨b, off + k, none⟩) hab).trans hcs)
  have hkk : (r.Secrets.length : Int) - 1 = (k : Int) := by omega
  have hk12 : (k : Int) ≤ 11 := by omega
  have hk0 : (0 : Int) ≤ (k : Int) := by omega
  have hki : (k : Int) < (r.Secrets.length : Int) := by omega
  have HK1 := Lib.hid hk1
  clear hk1
  go_enter Try.func24, Try.ntmps24
  go_wp2_with fail
  refine (HR.out _ (by (repeat (first | (with_reducible exact Below.refl _ _) | (with_reducible assumption) | ((with_reducible refine Below.setCell ?_ ?_ _); rotate_left; focus (first | omega | (simp; done) | (simp; omega))) | ((with_reducible refine Below.alloc ?_ ?_ _); rotate_left; focus (first | omega | (simp; done) | (simp; omega))) | (with_reducible refine Below.drew ?_) | (with_reducible refine below_drewN ?_ _) | (refine Below.trans ?_ (Below.mono (by with_reducible assumption) (by (first | omega | (simp; done) | (simp; omega))))))))).mono ?_
  rintro e w1 ⟨rfl, hb1⟩
  have hz1 := hb1.size; try simp at hz1
  have BK0 := (by (repeat (first | (with_reducible assumption) | ((with_reducible refine Blk.new' ?_); focus (simp; done)) | (with_reducible refine Blk.alloc ?_ _) | (with_reducible refine Blk.drew ?_) | (with_reducible refine Blk.drewN ?_ _) | ((with_reducible refine Blk.far ?_ ?_ _); rotate_left; focus (first | omega | (simp; done) | (simp; omega))) | (refine Blk.keep ?_ (by with_reducible assumption)) | (refine Blk.below ?_ (by with_reducible assumption) (by (first | omega | (simp; done) | (simp; omega)))))) : Blk w1 w.heap.size 34 #[.int .i64 r.First, .slice (some ⟨b, off, none⟩) r.Secrets.length c0]); have hc0 := BK0.cell; have hf0 := BK0.frozen
  have BK1 := (by (repeat (first | (with_reducible assumption) | ((with_reducible refine Blk.new' ?_); focus (simp; done)) | (with_reducible refine Blk.alloc ?_ _) | (with_reducible refine Blk.drew ?_) | (with_reducible refine Blk.drewN ?_ _) | ((with_reducible refine Blk.far ?_ ?_ _); rotate_left; focus (first | omega | (simp; done) | (simp; omega))) | (refine Blk.keep ?_ (by with_reducible assumption)) | (refine Blk.below ?_ (by with_reducible assumption) (by (first | omega | (simp; done) | (simp; omega)))))) : Blk w1 (w.heap.size + 1) 38 #[.int .i64 0, .int .i64 0, .slice none 0 0, .int .i64 0]); have hc1 := BK1.cell; have hf1 := BK1.frozen
  have hcw1 := HCW.out w1 (by (repeat (first | (with_reducible exact Below.refl _ _) | (with_reducible assumption) | ((with_reducible refine Below.setCell ?_ ?_ _); rotate_left; focus (first | omega | (simp; done) | (simp; omega))) | ((with_reducible refine Below.alloc ?_ ?_ _); rotate_left; focus (first | omega | (simp; done) | (simp; omega))) | (with_reducible refine Below.drew ?_) | (with_reducible refine below_drewN ?_ _) | (refine Below.trans ?_ (Below.mono (by with_reducible assumption) (by (first | omega | (simp; done) | (simp; omega))))))))
  go_wp2_with fail
  refine (HS.out _).mono ?_
  rintro e w2 ⟨rfl, hb2⟩
  have hz2 := hb2.size; try simp at hz2
  replace BK1 := BK1.keep hb2; replace hc1 := BK1.cell; replace hf1 := BK1.frozen
  have hcP := BK1.cell; have hfP := BK1.frozen
  have BKP := BK1
  replace BK1 := BK1.alloc (.cells #[.int .i64 0, .slice none 0 0, .int .i64 0] 36)
  replace hc1 := BK1.cell; replace hf1 := BK1.frozen
  have hl1 : w.heap.size + 1 < w2.heap.size := by omega
  go_wp2
  have hcF := (((((BKP.set_ 0 (.int .i64 0)).set_ 1 (.int .i64 0)).set_ 2 (.slice none 0 0)).set_ 3 (.int .i64 0)).alloc (.cells #[.int .i64 0, .slice none 0 0, .int .i64 0] 36)).cell
  refine bodyPost_ret (v := .tuple #[.agg #[.int .i64 0, .int .i64 0, .slice none 0 0, .int .i64 0], .bool false]) (by simp [results, Try.results24, go_sem, hcF]) rfl ⟨rfl, by (repeat (first | (with_reducible exact Below.refl _ _) | (with_reducible assumption) | ((with_reducible refine Below.setCell ?_ ?_ _); rotate_left; focus (first | omega | (simp; done) | (simp; omega))) | ((with_reducible refine Below.alloc ?_ ?_ _); rotate_left; focus (first | omega | (simp; done) | (simp; omega))) | (with_reducible refine Below.drew ?_) | (with_reducible refine below_drewN ?_ _) | (refine Below.trans ?_ (Below.mono (by with_reducible assumption) (by (first | omega | (simp; done) | (simp; omega)))))))⟩
set_option maxHeartbeats 1600000 in
theorem spec_Rewrap (cs0 : List Value) (r : KeyRing) (n : Int) (cs1 : List Value) (c : Cipher) (w : World) (h0 : KeyRingR.Rd w w.heap.size cs0 r) (h1 : CipherR.Rd w w.heap.size cs1 c) (m0 : KeyRingR.sz r ≤ 1048576) (m1 : CipherR.sz c ≤ 1048576) :
    Calls Try.prog 19 #[.agg cs0.toArray, .int .i64 n, .agg cs1.toArray] w fun e w' => ∃ cs', e = .returned (.tuple #[.agg cs'.toArray, .bool (rewOk r n c)]) ∧ CipherR.Own w' (InR w.heap.size w'.heap.size) cs' (rewC r n c) ∧ Below w.heap.size w w' := by
  obtain ⟨v0, rfl, q0⟩ := rd_KeyRing h0
  obtain ⟨A0, c0, rfl⟩ := q0.form
  obtain ⟨v1, rfl, q1⟩ := rd_Cipher h1
  obtain ⟨A1, c1, rfl⟩ := q1.form
  have hb := fun (w' : World) (hb : Below w.heap.size w w') => spec_RingOpen [.int .i64 r.First, .slice A0 r.Secrets.length c0] r [.int .i64 c.Version, .int .i64 c.Nonce, .slice A1 c.Data.length c1, .int .i64 c.Tag] c w' (KeyRingR.rd_keep h0 hb hb.size) (CipherR.rd_keep h1 hb hb.size) m0 m1
  have hl := openB_len r c
  cases ho : openOk r c
  · have HO := Lib.hid (rewOk_open (n := n) ho)
    rw [rewC_no HO.out, HO.out]
    rw [ho] at hb
    have HB := Lib.hid hb
    clear hb
    generalize openB r c = ys at *
    go_enter Try.func19, Try.ntmps19
    go_wp2_with fail
    refine (HB.out _ (by (repeat (first | (with_reducible exact Below.refl _ _) | (with_reducible assumption) | ((with_reducible refine Below.setCell ?_ ?_ _); rotate_left; focus (first | omega | (simp; done) | (simp; omega))) | ((with_reducible refine Below.alloc ?_ ?_ _); rotate_left; focus (first | omega | (simp; done) | (simp; omega))) | (with_reducible refine Below.drew ?_) | (with_reducible refine below_drewN ?_ _) | (refine Below.trans ?_ (Below.mono (by with_reducible assumption) (by (first | omega | (simp; done) | (simp; omega))))))))).mono ?_
    rintro e w1 ⟨_, rfl, ho2, hb1⟩
    obtain ⟨D, d, rfl⟩ := ho2.form
    have hz1 := hb1.size; try simp at hz1
    have BK2 := (by (repeat (first | (with_reducible assumption) | ((with_reducible refine Blk.new' ?_); focus (simp; done)) | (with_reducible refine Blk.alloc ?_ _) | (with_reducible refine Blk.drew ?_) | (with_reducible refine Blk.drewN ?_ _) | ((with_reducible refine Blk.far ?_ ?_ _); rotate_left; focus (first | omega | (simp; done) | (simp; omega))) | (refine Blk.keep ?_ (by with_reducible assumption)) | (refine Blk.below ?_ (by with_reducible assumption) (by (first | omega | (simp; done) | (simp; omega)))))) : Blk w1 (w.heap.size + 2) 38 #[.int .i64 0, .int .i64 0, .slice none 0 0, .int .i64 0]); have hc2 := BK2.cell; have hf2 := BK2.frozen
    go_wp2
    refine bodyPost_ret (v := .tuple #[.agg #[.int .i64 0, .int .i64 0, .slice none 0 0, .int .i64 0], .bool false]) (by simp [results, Try.results19, go_sem, hc2, hf2]) rfl ⟨[.int .i64 0, .int .i64 0, .slice none 0 0, .int .i64 0], rfl, zero_own_Cipher _ _, by (repeat (first | (with_reducible exact Below.refl _ _) | (with_reducible assumption) | ((with_reducible refine Below.setCell ?_ ?_ _); rotate_left; focus (first | omega | (simp; done) | (simp; omega))) | ((with_reducible refine Below.alloc ?_ ?_ _); rotate_left; focus (first | omega | (simp; done) | (simp; omega))) | (with_reducible refine Below.drew ?_) | (with_reducible refine below_drewN ?_ _) | (refine Below.trans ?_ (Below.mono (by with_reducible assumption) (by (first | omega | (simp; done) | (simp; omega)))))))⟩
  have hok := openOk_ringOk ho
  rw [ho] at hb
  have HB := Lib.hid hb
  clear hb
  cases hk : keyOk n
  · have HO := Lib.hid (rewOk_key (r := r) (c := c) hk)
    rw [rewC_no HO.out, HO.out]
    generalize openB r c = ys at *
    have HS := Lib.hid (fun (D : Option Addr) (d : Nat) (w' : World) (hb : Below w.heap.size w w') => spec_RingSeal_no [.int .i64 r.First, .slice A0 r.Secrets.length c0] r n D d ys.length w' (KeyRingR.rd_keep h0 hb hb.size) m0 hk hl hok)
    generalize hmm : ys.length = m at *
    go_enter Try.func19, Try.ntmps19
    go_wp2_with fail
    refine (HB.out _ (by (repeat (first | (with_reducible exact Below.refl _ _) | (with_reducible assumption) | ((with_reducible refine Below.setCell ?_ ?_ _); rotate_left; focus (first | omega | (simp; done) | (simp; omega))) | ((with_reducible refine Below.alloc ?_ ?_ _); rotate_left; focus (first | omega | (simp; done) | (simp; omega))) | (with_reducible refine Below.drew ?_) | (with_reducible refine below_drewN ?_ _) | (refine Below.trans ?_ (Below.mono (by with_reducible assumption) (by (first | omega | (simp; done) | (simp; omega))))))))).mono ?_
    rintro e w1 ⟨_, rfl, ho2, hb1⟩
    obtain ⟨D, d, rfl⟩ := ho2.form
    have hz1 := hb1.size; try simp at hz1
    have BK0 := (by (repeat (first | (with_reducible assumption) | ((with_reducible refine Blk.new' ?_); focus (simp; done)) | (with_reducible refine Blk.alloc ?_ _) | (with_reducible refine Blk.drew ?_) | (with_reducible refine Blk.drewN ?_ _) | ((with_reducible refine Blk.far ?_ ?_ _); rotate_left; focus (first | omega | (simp; done) | (simp; omega))) | (refine Blk.keep ?_ (by with_reducible assumption)) | (refine Blk.below ?_ (by with_reducible assumption) (by (first | omega | (simp; done) | (simp; omega)))))) : Blk w1 w.heap.size 34 #[.int .i64 r.First, .slice A0 r.Secrets.length c0]); have hc0 := BK0.cell; have hf0 := BK0.frozen
    have BK2 := (by (repeat (first | (with_reducible assumption) | ((with_reducible refine Blk.new' ?_); focus (simp; done)) | (with_reducible refine Blk.alloc ?_ _) | (with_reducible refine Blk.drew ?_) | (with_reducible refine Blk.drewN ?_ _) | ((with_reducible refine Blk.far ?_ ?_ _); rotate_left; focus (first | omega | (simp; done) | (simp; omega))) | (refine Blk.keep ?_ (by with_reducible assumption)) | (refine Blk.below ?_ (by with_reducible assumption) (by (first | omega | (simp; done) | (simp; omega)))))) : Blk w1 (w.heap.size + 2) 38 #[.int .i64 0, .int .i64 0, .slice none 0 0, .int .i64 0]); have hc2 := BK2.cell; have hf2 := BK2.frozen
    go_wp2_with fail
    refine (HS.out _ _ _ (by (repeat (first | (with_reducible exact Below.refl _ _) | (with_reducible assumption) | ((with_reducible refine Below.setCell ?_ ?_ _); rotate_left; focus (first | omega | (simp; done) | (simp; omega))) | ((with_reducible refine Below.alloc ?_ ?_ _); rotate_left; focus (first | omega | (simp; done) | (simp; omega))) | (with_reducible refine Below.drew ?_) | (with_reducible refine below_drewN ?_ _) | (refine Below.trans ?_ (Below.mono (by with_reducible assumption) (by (first | omega | (simp; done) | (simp; omega))))))))).mono ?_
    rintro e w2 ⟨rfl, hb2⟩
    have hz2 := hb2.size; try simp at hz2
    replace BK2 := BK2.keep hb2; replace hc2 := BK2.cell; replace hf2 := BK2.frozen
    go_wp2
    refine bodyPost_ret (v := .tuple #[.agg #[.int .i64 0, .int .i64 0, .slice none 0 0, .int .i64 0], .bool false]) (by simp [results, Try.results19, go_sem, hc2, hf2]) rfl ⟨[.int .i64 0, .int .i64 0, .slice none 0 0, .int .i64 0], rfl, zero_own_Cipher _ _, by (repeat (first | (with_reducible exact Below.refl _ _) | (with_reducible assumption) | ((with_reducible refine Below.setCell ?_ ?_ _); rotate_left; focus (first | omega | (simp; done) | (simp; omega))) | ((with_reducible refine Below.alloc ?_ ?_ _); rotate_left; focus (first | omega | (simp; done) | (simp; omega))) | (with_reducible refine Below.drew ?_) | (with_reducible refine below_drewN ?_ _) | (refine Below.trans ?_ (Below.mono (by with_reducible assumption) (by (first | omega | (simp; done) | (simp; omega)))))))⟩
  obtain ⟨N, rfl, hN⟩ := keyOk_nat hk
  have HO := Lib.hid (rewOk_ok hk ho)
  rw [rewC_ok HO.out, HO.out]
  have HML := Lib.hid (mask_len (lastK r) N (openB r c))
  generalize openB r c = ys at *
  have HS := Lib.hid (fun (D : Option Addr) (d : Nat) (w' : World) (hb : Below w.heap.size w w') (hr : Reads w' w'.heap.size D (ys.map byteV)) => spec_RingSeal [.int .i64 r.First, .slice A0 r.Secrets.length c0] r N D d ys w' (KeyRingR.rd_keep h0 hb hb.size) m0 hr hN hl hok)
  generalize tagL (lastK r) N (maskB (lastK r) N ys) = tg at *
  generalize maskB (lastK r) N ys = zs at *
  obtain ⟨m, hmm⟩ : ∃ m, ys.length = m := ⟨_, rfl⟩
  rw [hmm] at HS HML
  have HMM := Lib.hid hmm
  clear hmm hl
  obtain ⟨vv, hvv⟩ : ∃ vv, r.First + ((r.Secrets.length : Int) - 1) = vv := ⟨_, rfl⟩
  rw [hvv] at HS ⊢
  clear hvv
  go_enter Try.func19, Try.ntmps19
  go_wp2_with fail
  refine (HB.out _ (by (repeat (first | (with_reducible exact Below.refl _ _) | (with_reducible assumption) | ((with_reducible refine Below.setCell ?_ ?_ _); rotate_left; focus (first | omega | (simp; done) | (simp; omega))) | ((with_reducible refine Below.alloc ?_ ?_ _); rotate_left; focus (first | omega | (simp; done) | (simp; omega))) | (with_reducible refine Below.drew ?_) | (with_reducible refine below_drewN ?_ _) | (refine Below.trans ?_ (Below.mono (by with_reducible assumption) (by (first | omega | (simp; done) | (simp; omega))))))))).mono ?_
  rintro e w1 ⟨_, rfl, ho2, hb1⟩
  obtain ⟨D, d, rfl⟩ := ho2.form
  have hrd := (rd_ByteS (ho2.rd (B := w1.heap.size) (fun g hg => hg.2))).2.1
  rw [HMM.out]
  have hz1 := hb1.size; try simp at hz1
  have BK0 := (by (repeat (first | (with_reducible assumption) | ((with_reducible refine Blk.new' ?_); focus (simp; done)) | (with_reducible refine Blk.alloc ?_ _) | (with_reducible refine Blk.drew ?_) | (with_reducible refine Blk.drewN ?_ _) | ((with_reducible refine Blk.far ?_ ?_ _); rotate_left; focus (first | omega | (simp; done) | (simp; omega))) | (refine Blk.keep ?_ (by with_reducible assumption)) | (refine Blk.below ?_ (by with_reducible assumption) (by (first | omega | (simp; done) | (simp; omega)))))) : Blk w1 w.heap.size 34 #[.int .i64 r.First, .slice A0 r.Secrets.length c0]); have hc0 := BK0.cell; have hf0 := BK0.frozen
  have BK2 := (by (repeat (first | (with_reducible assumption) | ((with_reducible refine Blk.new' ?_); focus (simp; done)) | (with_reducible refine Blk.alloc ?_ _) | (with_reducible refine Blk.drew ?_) | (with_reducible refine Blk.drewN ?_ _) | ((with_reducible refine Blk.far ?_ ?_ _); rotate_left; focus (first | omega | (simp; done) | (simp; omega))) | (refine Blk.keep ?_ (by with_reducible assumption)) | (refine Blk.below ?_ (by with_reducible assumption) (by (first | omega | (simp; done) | (simp; omega)))))) : Blk w1 (w.heap.size + 2) 38 #[.int .i64 0, .int .i64 0, .slice none 0 0, .int .i64 0]); have hc2 := BK2.cell; have hf2 := BK2.frozen
  go_wp2_with fail
  refine (HS.out _ _ _ (by (repeat (first | (with_reducible exact Below.refl _ _) | (with_reducible assumption) | ((with_reducible refine Below.setCell ?_ ?_ _); rotate_left; focus (first | omega | (simp; done) | (simp; omega))) | ((with_reducible refine Below.alloc ?_ ?_ _); rotate_left; focus (first | omega | (simp; done) | (simp; omega))) | (with_reducible refine Below.drew ?_) | (with_reducible refine below_drewN ?_ _) | (refine Below.trans ?_ (Below.mono (by with_reducible assumption) (by (first | omega | (simp; done) | (simp; omega)))))))) hrd).mono ?_
  rintro e w3 ⟨E, d3, rfl, ho3, hb3⟩
  have hz3 := hb3.size; try simp at hz3
  replace BK2 := BK2.keep hb3; replace hc2 := BK2.cell; replace hf2 := BK2.frozen
  go_wp2
  refine bodyPost_ret (v := .tuple #[.agg #[.int .i64 vv, .int .i64 N, .slice E m d3, .int .i64 tg], .bool true]) (by simp [results, Try.results19, go_sem, hc2, hf2]) rfl ⟨[.int .i64 vv, .int .i64 N, .slice E m d3, .int .i64 tg], rfl, ?_, by (repeat (first | (with_reducible exact Below.refl _ _) | (with_reducible assumption) | ((with_reducible refine Below.setCell ?_ ?_ _); rotate_left; focus (first | omega | (simp; done) | (simp; omega))) | ((with_reducible refine Below.alloc ?_ ?_ _); rotate_left; focus (first | omega | (simp; done) | (simp; omega))) | (with_reducible refine Below.drew ?_) | (with_reducible refine below_drewN ?_ _) | (refine Below.trans ?_ (Below.mono (by with_reducible assumption) (by (first | omega | (simp; done) | (simp; omega)))))))⟩
  refine own_Cipher_row HML.out ?_
  refine own_base (base := w1.heap.size) ?_ (by omega)
  (repeat (first | (with_reducible exact ho3) | ((with_reducible refine own_setCell ?_ ?_ _); rotate_left; focus (first | omega | (simp; done) | (simp; omega))) | (with_reducible refine World.ownsRow.alloc ?_ _) | (with_reducible refine own_drew ?_) | (with_reducible refine own_drewN ?_ _) | (refine own_below ?_ (by with_reducible assumption))))
end Go.Proofs.Ytlncnicpiadaaaa

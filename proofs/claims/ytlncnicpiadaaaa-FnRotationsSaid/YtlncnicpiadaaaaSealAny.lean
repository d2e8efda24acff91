/- RingSeal of the reference, where it refuses. -/
import Derived.Test.YtlncnicpiadaaaaSpecWrap
set_option linter.unusedSimpArgs false
set_option linter.unusedVariables false
set_option maxRecDepth 20000
namespace Go.Proofs.Ytlncnicpiadaaaa
open Go.RowKit
set_option maxHeartbeats 1600000 in
theorem spec_SealBox_long (K N : Nat) (A : Option Addr) (c : Nat) (n : Nat) (w : World) (hK : K ≤ 1099511627776) (hN : N ≤ 1099511627776) (hm : 2000 < n) (hm2 : n ≤ 1048576) :
    Calls Try.prog 51 #[.int .i64 K, .int .i64 N, .slice A n c] w fun e w' => e = .returned (.tuple #[.agg #[.int .i64 0, .slice none 0 0, .int .i64 0], .bool false]) ∧ Below w.heap.size w w' := by
  have HK1 := Lib.hid (fun w => spec_l04Key_b (keyOk_of hK) w)
  have HK2 := Lib.hid (fun w => spec_l04Key_b (keyOk_of hN) w)
  have hd : decide ((2000 : Int) < (n : Int)) = true := by simp; omega
  have BK : Blk (w.alloc (.cells #[.int .i64 0, .slice none 0 0, .int .i64 0] 36)) w.heap.size 36 #[.int .i64 0, .slice none 0 0, .int .i64 0] := by (repeat (first | (with_reducible assumption) | ((with_reducible refine Blk.new' ?_); focus (simp; done)) | (with_reducible refine Blk.alloc ?_ _) | (with_reducible refine Blk.drew ?_) | (with_reducible refine Blk.drewN ?_ _) | ((with_reducible refine Blk.far ?_ ?_ _); rotate_left; focus (first | omega | (simp; done) | (simp; omega))) | (refine Blk.keep ?_ (by with_reducible assumption)) | (refine Blk.below ?_ (by with_reducible assumption) (by (first | omega | (simp; done) | (simp; omega))))))
  have hc := BK.cell
  have hf := BK.frozen
  go_enter Try.func51, Try.ntmps51
  go_wp2_with (go_at_call 55; first | (with_reducible refine (HK1.out _).mono ?_; rintro e w' ⟨rfl, rfl⟩) | (with_reducible refine (HK2.out _).mono ?_; rintro e w' ⟨rfl, rfl⟩))
  refine bodyPost_ret (v := .tuple #[.agg #[.int .i64 0, .slice none 0 0, .int .i64 0], .bool false]) (by simp [results, Try.results51, go_sem, hc, hf]) rfl ⟨rfl, by (repeat (first | (with_reducible exact Below.refl _ _) | (with_reducible assumption) | ((with_reducible refine Below.setCell ?_ ?_ _); rotate_left; focus (first | omega | (simp; done) | (simp; omega))) | ((with_reducible refine Below.alloc ?_ ?_ _); rotate_left; focus (first | omega | (simp; done) | (simp; omega))) | (with_reducible refine Below.drew ?_) | (with_reducible refine below_drewN ?_ _) | (refine Below.trans ?_ (Below.mono (by with_reducible assumption) (by (first | omega | (simp; done) | (simp; omega)))))))⟩
set_option maxHeartbeats 1600000 in
theorem spec_RingSeal_long (cs : List Value) (r : KeyRing) (N : Nat) (A : Option Addr) (c : Nat) (n : Nat) (w : World) (h : KeyRingR.Rd w w.heap.size cs r) (m0 : KeyRingR.sz r ≤ 1048576) (hN : N ≤ 1099511627776) (hm : 2000 < n) (hm2 : n ≤ 1048576) (hok : ringOk r = true) :
    Calls Try.prog 24 #[.agg cs.toArray, .int .i64 N, .slice A n c] w fun e w' => e = .returned (.tuple #[.agg #[.int .i64 0, .int .i64 0, .slice none 0 0, .int .i64 0], .bool false]) ∧ Below w.heap.size w w' := by
  obtain ⟨v0, rfl, q0⟩ := rd_KeyRing h
  obtain ⟨A0, c0, rfl⟩ := q0.form
  have r0 := (rd_IntS q0).2.1
  have HR := Lib.hid (fun (w' : World) (hb : Below w.heap.size w w') => spec_RingOk [.int .i64 r.First, .slice A0 r.Secrets.length c0] r w' (KeyRingR.rd_keep h hb hb.size) m0)
  rw [hok] at HR
  obtain ⟨p1, p2, p3, p4, -⟩ := ringOk_parts hok
  obtain ⟨k, K, hk1, hk3, hK, hk4⟩ := last_key hok
  have HS := Lib.hid (fun (w' : World) => spec_SealBox_long K N A c n w' hK hN hm hm2)
  obtain ⟨b, off, rfl, hab, hcs⟩ := r0.get (u := .int .i64 (K : Int)) (by rw [List.getElem?_map, hk3]; rfl) (Below.refl _ _) (Nat.le_refl _)
  have HCW := Lib.hid (fun (w' : World) (hb : Below w.heap.size w w') => (hb.cell (p := ⟨b, off + k, none⟩) hab).trans hcs)
  have hkk : (r.Secrets.length : Int) - 1 = (k : Int) := by omega
  have hk12 : (k : Int) ≤ 11 := by omega
  have hk0 : (0 : Int) ≤ (k : Int) := by omega
  have hki : (k : Int) < (r.Secrets.length : Int) := by omega
  have HK1 := Lib.hid hk1
  clear hk1
  go_enter Try.func24, Try.ntmps24
  go_wp2_with fail
  refine (HR.out _ (by (repeat (first | (with_reducible exact Below.refl _ _) | (with_reducible assumption) | ((with_reducible refine Below.setCell ?_ ?_ _); rotate_left; focus (first | omega | (simp; done) | (simp; omega))) | ((with_reducible refine Below.alloc ?_ ?_ _); rotate_left; focus (first | omega | (simp; done) | (simp; omega))) | (with_reducible refine Below.drew ?_) | (with_reducible refine below_drewN ?_ _) | (refine Below.trans ?_ (Below.mono (by with_reducible assumption) (by (first | omega | (simp; done) | (simp; omega))))))))).mono ?_
  rintro e w1 ⟨rfl, hb1⟩
  have hz1 := hb1.size; try simp at hz1
  have BK0 := (by (repeat (first | (with_reducible assumption) | ((with_reducible refine Blk.new' ?_); focus (simp; done)) | (with_reducible refine Blk.alloc ?_ _) | (with_reducible refine Blk.drew ?_) | (with_reducible refine Blk.drewN ?_ _) | ((with_reducible refine Blk.far ?_ ?_ _); rotate_left; focus (first | omega | (simp; done) | (simp; omega))) | (refine Blk.keep ?_ (by with_reducible assumption)) | (refine Blk.below ?_ (by with_reducible assumption) (by (first | omega | (simp; done) | (simp; omega)))))) : Blk w1 w.heap.size 34 #[.int .i64 r.First, .slice (some ⟨b, off, none⟩) r.Secrets.length c0]); have hc0 := BK0.cell; have hf0 := BK0.frozen
  have BK1 := (by (repeat (first | (with_reducible assumption) | ((with_reducible refine Blk.new' ?_); focus (simp; done)) | (with_reducible refine Blk.alloc ?_ _) | (with_reducible refine Blk.drew ?_) | (with_reducible refine Blk.drewN ?_ _) | ((with_reducible refine Blk.far ?_ ?_ _); rotate_left; focus (first | omega | (simp; done) | (simp; omega))) | (refine Blk.keep ?_ (by with_reducible assumption)) | (refine Blk.below ?_ (by with_reducible assumption) (by (first | omega | (simp; done) | (simp; omega)))))) : Blk w1 (w.heap.size + 1) 38 #[.int .i64 0, .int .i64 0, .slice none 0 0, .int .i64 0]); have hc1 := BK1.cell; have hf1 := BK1.frozen
  have hcw1 := HCW.out w1 (by (repeat (first | (with_reducible exact Below.refl _ _) | (with_reducible assumption) | ((with_reducible refine Below.setCell ?_ ?_ _); rotate_left; focus (first | omega | (simp; done) | (simp; omega))) | ((with_reducible refine Below.alloc ?_ ?_ _); rotate_left; focus (first | omega | (simp; done) | (simp; omega))) | (with_reducible refine Below.drew ?_) | (with_reducible refine below_drewN ?_ _) | (refine Below.trans ?_ (Below.mono (by with_reducible assumption) (by (first | omega | (simp; done) | (simp; omega))))))))
  go_wp2_with fail
  refine (HS.out _).mono ?_
  rintro e w2 ⟨rfl, hb2⟩
  have hz2 := hb2.size; try simp at hz2
  replace BK1 := BK1.keep hb2; replace hc1 := BK1.cell; replace hf1 := BK1.frozen
  have hcP := BK1.cell; have hfP := BK1.frozen
  have BKP := BK1
  replace BK1 := BK1.alloc (.cells #[.int .i64 0, .slice none 0 0, .int .i64 0] 36)
  replace hc1 := BK1.cell; replace hf1 := BK1.frozen
  have hl1 : w.heap.size + 1 < w2.heap.size := by omega
  go_wp2
  have hcF := (((((BKP.set_ 0 (.int .i64 0)).set_ 1 (.int .i64 0)).set_ 2 (.slice none 0 0)).set_ 3 (.int .i64 0)).alloc (.cells #[.int .i64 0, .slice none 0 0, .int .i64 0] 36)).cell
  refine bodyPost_ret (v := .tuple #[.agg #[.int .i64 0, .int .i64 0, .slice none 0 0, .int .i64 0], .bool false]) (by simp [results, Try.results24, go_sem, hcF]) rfl ⟨rfl, by (repeat (first | (with_reducible exact Below.refl _ _) | (with_reducible assumption) | ((with_reducible refine Below.setCell ?_ ?_ _); rotate_left; focus (first | omega | (simp; done) | (simp; omega))) | ((with_reducible refine Below.alloc ?_ ?_ _); rotate_left; focus (first | omega | (simp; done) | (simp; omega))) | (with_reducible refine Below.drew ?_) | (with_reducible refine below_drewN ?_ _) | (refine Below.trans ?_ (Below.mono (by with_reducible assumption) (by (first | omega | (simp; done) | (simp; omega)))))))⟩
set_option maxHeartbeats 1600000 in
theorem spec_SealBox_key (K : Nat) (x : Int) (A : Option Addr) (c : Nat) (n : Nat) (w : World) (hK : K ≤ 1099511627776) (hx : keyOk x = false) (hm : n ≤ 1048576) :
    Calls Try.prog 51 #[.int .i64 K, .int .i64 x, .slice A n c] w fun e w' => e = .returned (.tuple #[.agg #[.int .i64 0, .slice none 0 0, .int .i64 0], .bool false]) ∧ Below w.heap.size w w' := by
  have HK1 := Lib.hid (fun w => spec_l04Key_b (keyOk_of hK) w)
  have HK2 := Lib.hid (fun w => spec_l04Key_b hx w)
  have BK : Blk (w.alloc (.cells #[.int .i64 0, .slice none 0 0, .int .i64 0] 36)) w.heap.size 36 #[.int .i64 0, .slice none 0 0, .int .i64 0] := by (repeat (first | (with_reducible assumption) | ((with_reducible refine Blk.new' ?_); focus (simp; done)) | (with_reducible refine Blk.alloc ?_ _) | (with_reducible refine Blk.drew ?_) | (with_reducible refine Blk.drewN ?_ _) | ((with_reducible refine Blk.far ?_ ?_ _); rotate_left; focus (first | omega | (simp; done) | (simp; omega))) | (refine Blk.keep ?_ (by with_reducible assumption)) | (refine Blk.below ?_ (by with_reducible assumption) (by (first | omega | (simp; done) | (simp; omega))))))
  have hc := BK.cell
  have hf := BK.frozen
  go_enter Try.func51, Try.ntmps51
  go_wp2_with (go_at_call 55; first | (with_reducible refine (HK1.out _).mono ?_; rintro e w' ⟨rfl, rfl⟩) | (with_reducible refine (HK2.out _).mono ?_; rintro e w' ⟨rfl, rfl⟩))
  refine bodyPost_ret (v := .tuple #[.agg #[.int .i64 0, .slice none 0 0, .int .i64 0], .bool false]) (by simp [results, Try.results51, go_sem, hc, hf]) rfl ⟨rfl, by (repeat (first | (with_reducible exact Below.refl _ _) | (with_reducible assumption) | ((with_reducible refine Below.setCell ?_ ?_ _); rotate_left; focus (first | omega | (simp; done) | (simp; omega))) | ((with_reducible refine Below.alloc ?_ ?_ _); rotate_left; focus (first | omega | (simp; done) | (simp; omega))) | (with_reducible refine Below.drew ?_) | (with_reducible refine below_drewN ?_ _) | (refine Below.trans ?_ (Below.mono (by with_reducible assumption) (by (first | omega | (simp; done) | (simp; omega)))))))⟩
set_option maxHeartbeats 1600000 in
theorem spec_RingSeal_key (cs : List Value) (r : KeyRing) (x : Int) (A : Option Addr) (c : Nat) (n : Nat) (w : World) (h : KeyRingR.Rd w w.heap.size cs r) (m0 : KeyRingR.sz r ≤ 1048576) (hx : keyOk x = false) (hm : n ≤ 1048576) (hok : ringOk r = true) :
    Calls Try.prog 24 #[.agg cs.toArray, .int .i64 x, .slice A n c] w fun e w' => e = .returned (.tuple #[.agg #[.int .i64 0, .int .i64 0, .slice none 0 0, .int .i64 0], .bool false]) ∧ Below w.heap.size w w' := by
  obtain ⟨v0, rfl, q0⟩ := rd_KeyRing h
  obtain ⟨A0, c0, rfl⟩ := q0.form
  have r0 := (rd_IntS q0).2.1
  have HR := Lib.hid (fun (w' : World) (hb : Below w.heap.size w w') => spec_RingOk [.int .i64 r.First, .slice A0 r.Secrets.length c0] r w' (KeyRingR.rd_keep h hb hb.size) m0)
  rw [hok] at HR
  obtain ⟨p1, p2, p3, p4, -⟩ := ringOk_parts hok
  obtain ⟨k, K, hk1, hk3, hK, hk4⟩ := last_key hok
  have HS := Lib.hid (fun (w' : World) => spec_SealBox_key K x A c n w' hK hx hm)
  obtain ⟨b, off, rfl, hab, hcs⟩ := r0.get (u := .int .i64 (K : Int)) (by rw [List.getElem?_map, hk3]; rfl) (Below.refl _ _) (Nat.le_refl _)
  have HCW := Lib.hid (fun (w' : World) (hb : Below w.heap.size w w') => (hb.cell (p := ⟨b, off + k, none⟩) hab).trans hcs)
  have hkk : (r.Secrets.length : Int) - 1 = (k : Int) := by omega
  have hk12 : (k : Int) ≤ 11 := by omega
  have hk0 : (0 : Int) ≤ (k : Int) := by omega
  have hki : (k : Int) < (r.Secrets.length : Int) := by omega
  have HK1 := Lib.hid hk1
  clear hk1
  go_enter Try.func24, Try.ntmps24
  go_wp2_with fail
  refine (HR.out _ (by (repeat (first | (with_reducible exact Below.refl _ _) | (with_reducible assumption) | ((with_reducible refine Below.setCell ?_ ?_ _); rotate_left; focus (first | omega | (simp; done) | (simp; omega))) | ((with_reducible refine Below.alloc ?_ ?_ _); rotate_left; focus (first | omega | (simp; done) | (simp; omega))) | (with_reducible refine Below.drew ?_) | (with_reducible refine below_drewN ?_ _) | (refine Below.trans ?_ (Below.mono (by with_reducible assumption) (by (first | omega | (simp; done) | (simp; omega))))))))).mono ?_
  rintro e w1 ⟨rfl, hb1⟩
  have hz1 := hb1.size; try simp at hz1
  have BK0 := (by (repeat (first | (with_reducible assumption) | ((with_reducible refine Blk.new' ?_); focus (simp; done)) | (with_reducible refine Blk.alloc ?_ _) | (with_reducible refine Blk.drew ?_) | (with_reducible refine Blk.drewN ?_ _) | ((with_reducible refine Blk.far ?_ ?_ _); rotate_left; focus (first | omega | (simp; done) | (simp; omega))) | (refine Blk.keep ?_ (by with_reducible assumption)) | (refine Blk.below ?_ (by with_reducible assumption) (by (first | omega | (simp; done) | (simp; omega)))))) : Blk w1 w.heap.size 34 #[.int .i64 r.First, .slice (some ⟨b, off, none⟩) r.Secrets.length c0]); have hc0 := BK0.cell; have hf0 := BK0.frozen
  have BK1 := (by (repeat (first | (with_reducible assumption) | ((with_reducible refine Blk.new' ?_); focus (simp; done)) | (with_reducible refine Blk.alloc ?_ _) | (with_reducible refine Blk.drew ?_) | (with_reducible refine Blk.drewN ?_ _) | ((with_reducible refine Blk.far ?_ ?_ _); rotate_left; focus (first | omega | (simp; done) | (simp; omega))) | (refine Blk.keep ?_ (by with_reducible assumption)) | (refine Blk.below ?_ (by with_reducible assumption) (by (first | omega | (simp; done) | (simp; omega)))))) : Blk w1 (w.heap.size + 1) 38 #[.int .i64 0, .int .i64 0, .slice none 0 0, .int .i64 0]); have hc1 := BK1.cell; have hf1 := BK1.frozen
  have hcw1 := HCW.out w1 (by (repeat (first | (with_reducible exact Below.refl _ _) | (with_reducible assumption) | ((with_reducible refine Below.setCell ?_ ?_ _); rotate_left; focus (first | omega | (simp; done) | (simp; omega))) | ((with_reducible refine Below.alloc ?_ ?_ _); rotate_left; focus (first | omega | (simp; done) | (simp; omega))) | (with_reducible refine Below.drew ?_) | (with_reducible refine below_drewN ?_ _) | (refine Below.trans ?_ (Below.mono (by with_reducible assumption) (by (first | omega | (simp; done) | (simp; omega))))))))
  go_wp2_with fail
  refine (HS.out _).mono ?_
  rintro e w2 ⟨rfl, hb2⟩
  have hz2 := hb2.size; try simp at hz2
  replace BK1 := BK1.keep hb2; replace hc1 := BK1.cell; replace hf1 := BK1.frozen
  have hcP := BK1.cell; have hfP := BK1.frozen
  have BKP := BK1
  replace BK1 := BK1.alloc (.cells #[.int .i64 0, .slice none 0 0, .int .i64 0] 36)
  replace hc1 := BK1.cell; replace hf1 := BK1.frozen
  have hl1 : w.heap.size + 1 < w2.heap.size := by omega
  go_wp2
  have hcF := (((((BKP.set_ 0 (.int .i64 0)).set_ 1 (.int .i64 0)).set_ 2 (.slice none 0 0)).set_ 3 (.int .i64 0)).alloc (.cells #[.int .i64 0, .slice none 0 0, .int .i64 0] 36)).cell
  refine bodyPost_ret (v := .tuple #[.agg #[.int .i64 0, .int .i64 0, .slice none 0 0, .int .i64 0], .bool false]) (by simp [results, Try.results24, go_sem, hcF]) rfl ⟨rfl, by (repeat (first | (with_reducible exact Below.refl _ _) | (with_reducible assumption) | ((with_reducible refine Below.setCell ?_ ?_ _); rotate_left; focus (first | omega | (simp; done) | (simp; omega))) | ((with_reducible refine Below.alloc ?_ ?_ _); rotate_left; focus (first | omega | (simp; done) | (simp; omega))) | (with_reducible refine Below.drew ?_) | (with_reducible refine below_drewN ?_ _) | (refine Below.trans ?_ (Below.mono (by with_reducible assumption) (by (first | omega | (simp; done) | (simp; omega)))))))⟩
set_option maxHeartbeats 1600000 in
theorem spec_RingSeal_bad (cs : List Value) (r : KeyRing) (x : Int) (A : Option Addr) (c : Nat) (n : Nat) (w : World) (h : KeyRingR.Rd w w.heap.size cs r) (m0 : KeyRingR.sz r ≤ 1048576) (hok : ringOk r = false) :
    Calls Try.prog 24 #[.agg cs.toArray, .int .i64 x, .slice A n c] w fun e w' => e = .returned (.tuple #[.agg #[.int .i64 0, .int .i64 0, .slice none 0 0, .int .i64 0], .bool false]) ∧ Below w.heap.size w w' := by
  obtain ⟨v0, rfl, q0⟩ := rd_KeyRing h
  obtain ⟨A0, c0, rfl⟩ := q0.form
  have HR := Lib.hid (fun (w' : World) (hb : Below w.heap.size w w') => spec_RingOk [.int .i64 r.First, .slice A0 r.Secrets.length c0] r w' (KeyRingR.rd_keep h hb hb.size) m0)
  rw [hok] at HR
  go_enter Try.func24, Try.ntmps24
  go_wp2_with fail
  refine (HR.out _ (by (repeat (first | (with_reducible exact Below.refl _ _) | (with_reducible assumption) | ((with_reducible refine Below.setCell ?_ ?_ _); rotate_left; focus (first | omega | (simp; done) | (simp; omega))) | ((with_reducible refine Below.alloc ?_ ?_ _); rotate_left; focus (first | omega | (simp; done) | (simp; omega))) | (with_reducible refine Below.drew ?_) | (with_reducible refine below_drewN ?_ _) | (refine Below.trans ?_ (Below.mono (by with_reducible assumption) (by (first | omega | (simp; done) | (simp; omega))))))))).mono ?_
  rintro e w1 ⟨rfl, hb1⟩
  have hz1 := hb1.size; try simp at hz1
  have BK1 := (by (repeat (first | (with_reducible assumption) | ((with_reducible refine Blk.new' ?_); focus (simp; done)) | (with_reducible refine Blk.alloc ?_ _) | (with_reducible refine Blk.drew ?_) | (with_reducible refine Blk.drewN ?_ _) | ((with_reducible refine Blk.far ?_ ?_ _); rotate_left; focus (first | omega | (simp; done) | (simp; omega))) | (refine Blk.keep ?_ (by with_reducible assumption)) | (refine Blk.below ?_ (by with_reducible assumption) (by (first | omega | (simp; done) | (simp; omega)))))) : Blk w1 (w.heap.size + 1) 38 #[.int .i64 0, .int .i64 0, .slice none 0 0, .int .i64 0]); have hc1 := BK1.cell; have hf1 := BK1.frozen
  go_wp2
  refine bodyPost_ret (v := .tuple #[.agg #[.int .i64 0, .int .i64 0, .slice none 0 0, .int .i64 0], .bool false]) (by simp [results, Try.results24, go_sem, hc1, hf1]) rfl ⟨rfl, by (repeat (first | (with_reducible exact Below.refl _ _) | (with_reducible assumption) | ((with_reducible refine Below.setCell ?_ ?_ _); rotate_left; focus (first | omega | (simp; done) | (simp; omega))) | ((with_reducible refine Below.alloc ?_ ?_ _); rotate_left; focus (first | omega | (simp; done) | (simp; omega))) | (with_reducible refine Below.drew ?_) | (with_reducible refine below_drewN ?_ _) | (refine Below.trans ?_ (Below.mono (by with_reducible assumption) (by (first | omega | (simp; done) | (simp; omega)))))))⟩
def sealOk (r : KeyRing) (x : Int) (n : Nat) : Bool := ringOk r && (keyOk x && decide (n ≤ 2000))
theorem sealOk_parts {r : KeyRing} {x : Int} {n : Nat} (h : sealOk r x n = true) : ringOk r = true ∧ keyOk x = true ∧ n ≤ 2000 := by
  unfold sealOk at h
  simpa only [Bool.and_eq_true, decide_eq_true_eq] using h
theorem spec_RingSeal_refuse (cs : List Value) (r : KeyRing) (x : Int) (A : Option Addr) (c : Nat) (n : Nat) (w : World) (h : KeyRingR.Rd w w.heap.size cs r) (m0 : KeyRingR.sz r ≤ 1048576) (hn : n ≤ 1048576) (hs : sealOk r x n = false) :
    Calls Try.prog 24 #[.agg cs.toArray, .int .i64 x, .slice A n c] w fun e w' => e = .returned (.tuple #[.agg #[.int .i64 0, .int .i64 0, .slice none 0 0, .int .i64 0], .bool false]) ∧ Below w.heap.size w w' := by
  cases hok : ringOk r
  · exact spec_RingSeal_bad cs r x A c n w h m0 hok
  cases hk : keyOk x
  · by_cases hl : n ≤ 2000
    · exact spec_RingSeal_no cs r x A c n w h m0 hk hl hok
    · exact spec_RingSeal_key cs r x A c n w h m0 hk hn hok
  · obtain ⟨N, rfl, hN⟩ := keyOk_nat hk
    by_cases hl : n ≤ 2000
    · unfold sealOk at hs; rw [hok, hk, decide_eq_true hl] at hs; cases hs
    · exact spec_RingSeal_long cs r N A c n w h m0 hN (by omega) hn hok
end Go.Proofs.Ytlncnicpiadaaaa

/- Sealing: plain data; sealBox, ringSeal of the program. -/
import Derived.Test.YtlncnicpiadaaaaImplROpen
set_option linter.unusedSimpArgs false
set_option linter.unusedVariables false
set_option maxRecDepth 20000
namespace Go.Proofs.Ytlncnicpiadaaaa
open Go.RowKit
def lastK (r : KeyRing) : Nat := ((r.Secrets[r.Secrets.length - 1]?).getD 0).toNat
def rewOk (r : KeyRing) (n : Int) (c : Cipher) : Bool := keyOk n && openOk r c
def rewC (r : KeyRing) (n : Int) (c : Cipher) : Cipher := match rewOk r n c with
  | true => ⟨r.First + ((r.Secrets.length : Int) - 1), n, maskB (lastK r) n.toNat (openB r c), tagL (lastK r) n.toNat (maskB (lastK r) n.toNat (openB r c))⟩
  | false => ⟨0, 0, [], 0⟩
theorem rewC_no {r : KeyRing} {n : Int} {c : Cipher} (h : rewOk r n c = false) : rewC r n c = ⟨0, 0, [], 0⟩ := by unfold rewC; rw [h]
theorem rewC_ok {r : KeyRing} {N : Nat} {c : Cipher} (h : rewOk r N c = true) : rewC r N c = ⟨r.First + ((r.Secrets.length : Int) - 1), N, maskB (lastK r) N (openB r c), tagL (lastK r) N (maskB (lastK r) N (openB r c))⟩ := by unfold rewC; rw [h]; rfl
theorem rewC_len (r : KeyRing) (n : Int) (c : Cipher) : (rewC r n c).Data.length ≤ 2000 := by
  unfold rewC
  cases rewOk r n c
  · simp
  · simp only [mask_len]; exact openB_len r c
theorem last_key {r : KeyRing} (h : ringOk r = true) : ∃ k K : Nat, r.Secrets.length = k + 1 ∧ r.Secrets[k]? = some (K : Int) ∧ K ≤ 1099511627776 ∧ lastK r = K := by
  obtain ⟨h2, h3, h4, h5, h6⟩ := ringOk_parts h
  have hk : r.Secrets.length - 1 < r.Secrets.length := by omega
  obtain ⟨K, hK, hK2⟩ := keyOk_nat (h6 _ (List.getElem_mem hk))
  refine ⟨r.Secrets.length - 1, K, by omega, by rw [List.getElem?_eq_getElem hk, hK], hK2, ?_⟩
  unfold lastK
  rw [List.getElem?_eq_getElem hk, hK]
  rfl
set_option maxHeartbeats 1600000 in
theorem impl_sealBox (K N : Nat) (A : Option Addr) (c : Nat) (xs : List UInt8) (w : World) (hr : Reads w w.heap.size A (xs.map byteV)) (hK : K ≤ 1099511627776) (hN : N ≤ 1099511627776) (hm : xs.length ≤ 2000) :
    Calls Try.prog 62 #[.int .i64 K, .int .i64 N, .slice A xs.length c] w fun e w' => ∃ A1 c1, e = .returned (.agg #[.int .i64 N, .slice A1 xs.length c1, .int .i64 (tagL K N (maskB K N xs))]) ∧ w'.ownsRow w.heap.size 5 1 (.slice A1 xs.length c1) xs.length ((maskB K N xs).map byteV) ∧ Below w.heap.size w w' := by
  have HC := Lib.hid (fun (w' : World) (hb : Below w.heap.size w w') => impl_crossed K N A c xs w' (hr.keep hb hb.size) hK hN hm)
  have HT := Lib.hid (fun (A1 : Option Addr) (c1 : Nat) (w' : World) (h : Reads w' w'.heap.size A1 ((maskB K N xs).map byteV)) => impl_tagOf K N A1 c1 (maskB K N xs) w' h hK hN (by rw [mask_len]; omega))
  rw [mask_len] at HT
  generalize tagL K N (maskB K N xs) = tg at *
  generalize maskB K N xs = ys at *
  generalize xs.length = n at *
  clear hr
  go_enter Try.func62, Try.ntmps62
  go_wp2_with fail
  refine (HC.out _ (by (repeat (first | (with_reducible exact Below.refl _ _) | (with_reducible assumption) | ((with_reducible refine Below.setCell ?_ ?_ _); rotate_left; focus (first | omega | (simp; done) | (simp; omega))) | ((with_reducible refine Below.alloc ?_ ?_ _); rotate_left; focus (first | omega | (simp; done) | (simp; omega))) | (with_reducible refine Below.drew ?_) | (with_reducible refine below_drewN ?_ _) | (refine Below.trans ?_ (Below.mono (by with_reducible assumption) (by (first | omega | (simp; done) | (simp; omega))))))))).mono ?_
  rintro e w1 ⟨A1, c1, rfl, ho1, hb1⟩
  have hz1 := hb1.size; try simp at hz1
  have BK1 := (by (repeat (first | (with_reducible assumption) | ((with_reducible refine Blk.new' ?_); focus (simp; done)) | (with_reducible refine Blk.alloc ?_ _) | (with_reducible refine Blk.drew ?_) | (with_reducible refine Blk.drewN ?_ _) | ((with_reducible refine Blk.far ?_ ?_ _); rotate_left; focus (first | omega | (simp; done) | (simp; omega))) | (refine Blk.keep ?_ (by with_reducible assumption)) | (refine Blk.below ?_ (by with_reducible assumption) (by (first | omega | (simp; done) | (simp; omega)))))) : Blk w1 w.heap.size 36 #[.int .i64 0, .slice none 0 0, .int .i64 0]); have hc1 := BK1.cell; have hf1 := BK1.frozen
  go_wp2_with fail
  refine (HT.out _ _ _ (Reads.of_own ho1)).mono ?_
  rintro e w2 ⟨rfl, hb2⟩
  have hz2 := hb2.size; try simp at hz2
  replace BK1 := BK1.keep hb2; replace hc1 := BK1.cell; replace hf1 := BK1.frozen
  go_wp2
  refine bodyPost_ret (v := .agg #[.int .i64 N, .slice A1 n c1, .int .i64 tg]) (by simp [results, Try.results62, go_sem, hc1, hf1]) rfl ⟨A1, c1, rfl, ?_, by (repeat (first | (with_reducible exact Below.refl _ _) | (with_reducible assumption) | ((with_reducible refine Below.setCell ?_ ?_ _); rotate_left; focus (first | omega | (simp; done) | (simp; omega))) | ((with_reducible refine Below.alloc ?_ ?_ _); rotate_left; focus (first | omega | (simp; done) | (simp; omega))) | (with_reducible refine Below.drew ?_) | (with_reducible refine below_drewN ?_ _) | (refine Below.trans ?_ (Below.mono (by with_reducible assumption) (by (first | omega | (simp; done) | (simp; omega)))))))⟩
  refine own_base (base := w.heap.size + 1) ?_ (by omega)
  have ho1' : w1.ownsRow (w.heap.size + 1) 5 1 (.slice A1 n c1) n (ys.map byteV) := by simpa using ho1
  (repeat (first | (with_reducible exact own_below ho1' hb2) | ((with_reducible refine own_setCell ?_ ?_ _); rotate_left; focus (first | omega | (simp; done) | (simp; omega))) | (with_reducible refine World.ownsRow.alloc ?_ _) | (with_reducible refine own_drew ?_) | (with_reducible refine own_drewN ?_ _) | (refine own_below ?_ (by with_reducible assumption))))
set_option maxHeartbeats 1600000 in
theorem impl_ringSeal (cs : List Value) (r : KeyRing) (N : Nat) (A : Option Addr) (c : Nat) (xs : List UInt8) (w : World) (h : KeyRingR.Rd w w.heap.size cs r) (hr : Reads w w.heap.size A (xs.map byteV)) (hN : N ≤ 1099511627776) (hm : xs.length ≤ 2000) (hok : ringOk r = true) :
    Calls Try.prog 45 #[.agg cs.toArray, .int .i64 N, .slice A xs.length c] w fun e w' => ∃ A1 c1, e = .returned (.agg #[.int .i64 (r.First + ((r.Secrets.length : Int) - 1)), .int .i64 N, .slice A1 xs.length c1, .int .i64 (tagL (lastK r) N (maskB (lastK r) N xs))]) ∧ w'.ownsRow w.heap.size 5 1 (.slice A1 xs.length c1) xs.length ((maskB (lastK r) N xs).map byteV) ∧ Below w.heap.size w w' := by
  obtain ⟨v0, rfl, q0⟩ := rd_KeyRing h
  obtain ⟨A0, c0, rfl⟩ := q0.form
  have r0 := (rd_IntS q0).2.1
  obtain ⟨p1, p2, p3, p4, -⟩ := ringOk_parts hok
  obtain ⟨k, K, hk1, hk3, hK, hk4⟩ := last_key hok
  rw [hk4]
  have HS := Lib.hid (fun (w' : World) (hb : Below w.heap.size w w') => impl_sealBox K N A c xs w' (hr.keep hb hb.size) hK hN hm)
  generalize tagL K N (maskB K N xs) = tg at *
  generalize maskB K N xs = ys at *
  generalize xs.length = n at *
  clear hr
  obtain ⟨b, off, rfl, hab, hcs⟩ := r0.get (u := .int .i64 (K : Int)) (by rw [List.getElem?_map, hk3]; rfl) (Below.refl _ _) (Nat.le_refl _)
  have HCW := Lib.hid (fun (w' : World) (hb : Below w.heap.size w w') => (hb.cell (p := ⟨b, off + k, none⟩) hab).trans hcs)
  have hkk : (r.Secrets.length : Int) - 1 = (k : Int) := by omega
  have hk12 : (k : Int) ≤ 11 := by omega
  have hk0 : (0 : Int) ≤ (k : Int) := by omega
  rw [hkk]
  have hki : (k : Int) < (r.Secrets.length : Int) := by omega
  have hwr : IntKind.i64.wrap (r.First + (k : Int)) = r.First + (k : Int) := IntWalk.i64_in _ (by omega)
  have HK1 := Lib.hid hk1
  clear hk1
  go_enter Try.func45, Try.ntmps45
  go_wp2_with fail
  have BK0 : Blk ((w.alloc (.cells #[.int .i64 r.First, .slice (some ⟨b, off, none⟩) r.Secrets.length c0] 34)).alloc (.cells #[.int .i64 0, .int .i64 0, .slice none 0 0, .int .i64 0] 38)) w.heap.size 34 #[.int .i64 r.First, .slice (some ⟨b, off, none⟩) r.Secrets.length c0] := by (repeat (first | (with_reducible assumption) | ((with_reducible refine Blk.new' ?_); focus (simp; done)) | (with_reducible refine Blk.alloc ?_ _) | (with_reducible refine Blk.drew ?_) | (with_reducible refine Blk.drewN ?_ _) | ((with_reducible refine Blk.far ?_ ?_ _); rotate_left; focus (first | omega | (simp; done) | (simp; omega))) | (refine Blk.keep ?_ (by with_reducible assumption)) | (refine Blk.below ?_ (by with_reducible assumption) (by (first | omega | (simp; done) | (simp; omega))))))
  have BK1 : Blk ((w.alloc (.cells #[.int .i64 r.First, .slice (some ⟨b, off, none⟩) r.Secrets.length c0] 34)).alloc (.cells #[.int .i64 0, .int .i64 0, .slice none 0 0, .int .i64 0] 38)) (w.heap.size + 1) 38 #[.int .i64 0, .int .i64 0, .slice none 0 0, .int .i64 0] := Blk.new' (by simp)
  have hw2 : Below w.heap.size w ((w.alloc (.cells #[.int .i64 r.First, .slice (some ⟨b, off, none⟩) r.Secrets.length c0] 34)).alloc (.cells #[.int .i64 0, .int .i64 0, .slice none 0 0, .int .i64 0] 38)) := by (repeat (first | (with_reducible exact Below.refl _ _) | (with_reducible assumption) | ((with_reducible refine Below.setCell ?_ ?_ _); rotate_left; focus (first | omega | (simp; done) | (simp; omega))) | ((with_reducible refine Below.alloc ?_ ?_ _); rotate_left; focus (first | omega | (simp; done) | (simp; omega))) | (with_reducible refine Below.drew ?_) | (with_reducible refine below_drewN ?_ _) | (refine Below.trans ?_ (Below.mono (by with_reducible assumption) (by (first | omega | (simp; done) | (simp; omega)))))))
  have hzW : w.heap.size + 2 ≤ ((w.alloc (.cells #[.int .i64 r.First, .slice (some ⟨b, off, none⟩) r.Secrets.length c0] 34)).alloc (.cells #[.int .i64 0, .int .i64 0, .slice none 0 0, .int .i64 0] 38)).heap.size := by simp
  generalize ((w.alloc (.cells #[.int .i64 r.First, .slice (some ⟨b, off, none⟩) r.Secrets.length c0] 34)).alloc (.cells #[.int .i64 0, .int .i64 0, .slice none 0 0, .int .i64 0] 38)) = W at *
  go_region_held3 (fun w' => w'.cell? ⟨w.heap.size, 0, none⟩ = some (.int .i64 r.First) ∧ w'.cell? ⟨w.heap.size, 1, none⟩ = some (.slice (some ⟨b, off, none⟩) r.Secrets.length c0) ∧ w'.cell? ⟨b, off + k, none⟩ = some (.int .i64 (K : Int)))
    (first | exact ⟨Blk.cell (t := 34) (cs := #[.int .i64 r.First, .slice (some ⟨b, off, none⟩) r.Secrets.length c0]) (by (repeat (first | (with_reducible assumption) | ((with_reducible refine Blk.new' ?_); focus (simp; done)) | (with_reducible refine Blk.alloc ?_ _) | (with_reducible refine Blk.drew ?_) | (with_reducible refine Blk.drewN ?_ _) | ((with_reducible refine Blk.far ?_ ?_ _); rotate_left; focus (first | omega | (simp; done) | (simp; omega))) | (refine Blk.keep ?_ (by with_reducible assumption)) | (refine Blk.below ?_ (by with_reducible assumption) (by (first | omega | (simp; done) | (simp; omega))))))) 0, Blk.cell (t := 34) (cs := #[.int .i64 r.First, .slice (some ⟨b, off, none⟩) r.Secrets.length c0]) (by (repeat (first | (with_reducible assumption) | ((with_reducible refine Blk.new' ?_); focus (simp; done)) | (with_reducible refine Blk.alloc ?_ _) | (with_reducible refine Blk.drew ?_) | (with_reducible refine Blk.drewN ?_ _) | ((with_reducible refine Blk.far ?_ ?_ _); rotate_left; focus (first | omega | (simp; done) | (simp; omega))) | (refine Blk.keep ?_ (by with_reducible assumption)) | (refine Blk.below ?_ (by with_reducible assumption) (by (first | omega | (simp; done) | (simp; omega))))))) 1, HCW.out _ (by (repeat (first | (with_reducible exact Below.refl _ _) | (with_reducible assumption) | ((with_reducible refine Below.setCell ?_ ?_ _); rotate_left; focus (first | omega | (simp; done) | (simp; omega))) | ((with_reducible refine Below.alloc ?_ ?_ _); rotate_left; focus (first | omega | (simp; done) | (simp; omega))) | (with_reducible refine Below.drew ?_) | (with_reducible refine below_drewN ?_ _) | (refine Below.trans ?_ (Below.mono (by with_reducible assumption) (by (first | omega | (simp; done) | (simp; omega))))))))⟩)
    (first | (go_at_call 62; ((with_reducible refine (HS.out _ ?_).mono ?_); (focus (repeat (first | (with_reducible exact Below.refl _ _) | (with_reducible assumption) | ((with_reducible refine Below.setCell ?_ ?_ _); rotate_left; focus (first | omega | (simp; done) | (simp; omega))) | ((with_reducible refine Below.alloc ?_ ?_ _); rotate_left; focus (first | omega | (simp; done) | (simp; omega))) | (with_reducible refine Below.drew ?_) | (with_reducible refine below_drewN ?_ _) | (refine Below.trans ?_ (Below.mono (by with_reducible assumption) (by (first | omega | (simp; done) | (simp; omega))))))))); rintro e w2 ⟨D, d, rfl, ho, hb2⟩; have BR2 : Blk w2 (w.heap.size + 1) 38 #[.int .i64 0, .int .i64 0, .slice none 0 0, .int .i64 0] := (by (repeat (first | (with_reducible assumption) | ((with_reducible refine Blk.new' ?_); focus (simp; done)) | (with_reducible refine Blk.alloc ?_ _) | (with_reducible refine Blk.drew ?_) | (with_reducible refine Blk.drewN ?_ _) | ((with_reducible refine Blk.far ?_ ?_ _); rotate_left; focus (first | omega | (simp; done) | (simp; omega))) | (refine Blk.keep ?_ (by with_reducible assumption)) | (refine Blk.below ?_ (by with_reducible assumption) (by (first | omega | (simp; done) | (simp; omega))))))); have hcR := BR2.cell; have hfR := BR2.frozen))
  have hzw2 := hb2.size
  go_wp2
  refine bodyPost_ret (v := .agg #[.int .i64 (r.First + (k : Int)), .int .i64 N, .slice D n d, .int .i64 tg]) (by simp [results, Try.results45, go_sem, hcR, hfR]) rfl ⟨D, d, rfl, ?_, by (repeat (first | (with_reducible exact Below.refl _ _) | (with_reducible assumption) | ((with_reducible refine Below.setCell ?_ ?_ _); rotate_left; focus (first | omega | (simp; done) | (simp; omega))) | ((with_reducible refine Below.alloc ?_ ?_ _); rotate_left; focus (first | omega | (simp; done) | (simp; omega))) | (with_reducible refine Below.drew ?_) | (with_reducible refine below_drewN ?_ _) | (refine Below.trans ?_ (Below.mono (by with_reducible assumption) (by (first | omega | (simp; done) | (simp; omega)))))))⟩
  refine own_base (base := W.heap.size) ?_ (by omega)
  have ho' : w2.ownsRow W.heap.size 5 1 (.slice D n d) n (ys.map byteV) := by simpa using ho
  (repeat (first | (with_reducible exact ho') | ((with_reducible refine own_setCell ?_ ?_ _); rotate_left; focus (first | omega | (simp; done) | (simp; omega))) | (with_reducible refine World.ownsRow.alloc ?_ _) | (with_reducible refine own_drew ?_) | (with_reducible refine own_drewN ?_ _) | (refine own_below ?_ (by with_reducible assumption))))
end Go.Proofs.Ytlncnicpiadaaaa

/- Rewrap of the program. -/
import Derived.Test.YtlncnicpiadaaaaPureWrap
set_option linter.unusedSimpArgs false
set_option linter.unusedVariables false
set_option maxRecDepth 20000
namespace Go.Proofs.Ytlncnicpiadaaaa
open Go.RowKit
theorem zero_own_Cipher (w : World) (B : Nat) : CipherR.Own w (InR B w.heap.size) [.int .i64 0, .int .i64 0, .slice none 0 0, .int .i64 0] ⟨0, 0, [], 0⟩ := of_own_Cipher (x := ⟨0, 0, [], 0⟩) (of_own_in_ByteS (nil_own w B)) (fun _ h => h)
theorem rewOk_ring {r : KeyRing} {n : Int} {c : Cipher} (h : ringOk r = false) : rewOk r n c = false := by unfold rewOk; rw [openOk_ring h]; simp
theorem rewOk_key {r : KeyRing} {n : Int} {c : Cipher} (h : keyOk n = false) : rewOk r n c = false := by unfold rewOk; rw [h]; rfl
theorem rewOk_open {r : KeyRing} {n : Int} {c : Cipher} (h : openOk r c = false) : rewOk r n c = false := by unfold rewOk; rw [h]; simp
theorem rewOk_ok {r : KeyRing} {n : Int} {c : Cipher} (h : keyOk n = true) (h2 : openOk r c = true) : rewOk r n c = true := by unfold rewOk; rw [h, h2]; rfl
theorem openOk_ringOk {r : KeyRing} {c : Cipher} (h : openOk r c = true) : ringOk r = true := by
  cases h2 : ringOk r
  · rw [openOk_ring h2] at h; cases h
  · rfl
theorem own_Cipher_row {w : World} {base : Nat} {v n t : Int} {ys : List UInt8} {A : Option Addr} {m d : Nat} (hl : ys.length = m) (h : w.ownsRow base 5 1 (.slice A m d) m (ys.map byteV)) : CipherR.Own w (InR base w.heap.size) [.int .i64 v, .int .i64 n, .slice A m d, .int .i64 t] ⟨v, n, ys, t⟩ := by
  subst hl
  exact of_own_Cipher (x := ⟨v, n, ys, t⟩) (of_own_in_ByteS h) (fun _ h => h)
set_option maxHeartbeats 1600000 in
theorem impl_Rewrap (cs0 : List Value) (r : KeyRing) (n : Int) (cs1 : List Value) (c : Cipher) (w : World) (h0 : KeyRingR.Rd w w.heap.size cs0 r) (h1 : CipherR.Rd w w.heap.size cs1 c) (m0 : KeyRingR.sz r ≤ 1048576) (m1 : CipherR.sz c ≤ 1048576) :
    Calls Try.prog 20 #[.agg cs0.toArray, .int .i64 n, .agg cs1.toArray] w fun e w' => ∃ cs', e = .returned (.tuple #[.agg cs'.toArray, .bool (rewOk r n c)]) ∧ CipherR.Own w' (InR w.heap.size w'.heap.size) cs' (rewC r n c) ∧ Below w.heap.size w w' := by
  obtain ⟨v0, rfl, q0⟩ := rd_KeyRing h0
  obtain ⟨A0, c0, rfl⟩ := q0.form
  obtain ⟨v1, rfl, q1⟩ := rd_Cipher h1
  obtain ⟨A1, c1, rfl⟩ := q1.form
  have HR := Lib.hid (fun (w' : World) (hb : Below w.heap.size w w') => impl_isRing [.int .i64 r.First, .slice A0 r.Secrets.length c0] r w' (KeyRingR.rd_keep h0 hb hb.size) m0)
  have HB := Lib.hid (fun (hok : ringOk r = true) (w' : World) (hb : Below w.heap.size w w') => impl_ringOpen [.int .i64 r.First, .slice A0 r.Secrets.length c0] r [.int .i64 c.Version, .int .i64 c.Nonce, .slice A1 c.Data.length c1, .int .i64 c.Tag] c w' (KeyRingR.rd_keep h0 hb hb.size) (CipherR.rd_keep h1 hb hb.size) m0 m1 hok)
  have HI := Lib.hid (fun w => impl_isKey n w)
  cases hok : ringOk r
  · have HO := Lib.hid (rewOk_ring (n := n) (c := c) hok)
    rw [rewC_no HO.out, HO.out]
    rw [hok] at HR
    go_enter Try.func20, Try.ntmps20
    go_wp2_with fail
    refine (HR.out _ (by (repeat (first | (with_reducible exact Below.refl _ _) | (with_reducible assumption) | ((with_reducible refine Below.setCell ?_ ?_ _); rotate_left; focus (first | omega | (simp; done) | (simp; omega))) | ((with_reducible refine Below.alloc ?_ ?_ _); rotate_left; focus (first | omega | (simp; done) | (simp; omega))) | (with_reducible refine Below.drew ?_) | (with_reducible refine below_drewN ?_ _) | (refine Below.trans ?_ (Below.mono (by with_reducible assumption) (by (first | omega | (simp; done) | (simp; omega))))))))).mono ?_
    rintro e w1 ⟨rfl, hb1⟩
    have hz1 := hb1.size; try simp at hz1
    have BK2 := (by (repeat (first | (with_reducible assumption) | ((with_reducible refine Blk.new' ?_); focus (simp; done)) | (with_reducible refine Blk.alloc ?_ _) | (with_reducible refine Blk.drew ?_) | (with_reducible refine Blk.drewN ?_ _) | ((with_reducible refine Blk.far ?_ ?_ _); rotate_left; focus (first | omega | (simp; done) | (simp; omega))) | (refine Blk.keep ?_ (by with_reducible assumption)) | (refine Blk.below ?_ (by with_reducible assumption) (by (first | omega | (simp; done) | (simp; omega)))))) : Blk w1 (w.heap.size + 2) 38 #[.int .i64 0, .int .i64 0, .slice none 0 0, .int .i64 0]); have hc2 := BK2.cell; have hf2 := BK2.frozen
    go_wp2
    refine bodyPost_ret (v := .tuple #[.agg #[.int .i64 0, .int .i64 0, .slice none 0 0, .int .i64 0], .bool false]) (by simp [results, Try.results20, go_sem, hc2, hf2]) rfl ⟨[.int .i64 0, .int .i64 0, .slice none 0 0, .int .i64 0], rfl, zero_own_Cipher _ _, by (repeat (first | (with_reducible exact Below.refl _ _) | (with_reducible assumption) | ((with_reducible refine Below.setCell ?_ ?_ _); rotate_left; focus (first | omega | (simp; done) | (simp; omega))) | ((with_reducible refine Below.alloc ?_ ?_ _); rotate_left; focus (first | omega | (simp; done) | (simp; omega))) | (with_reducible refine Below.drew ?_) | (with_reducible refine below_drewN ?_ _) | (refine Below.trans ?_ (Below.mono (by with_reducible assumption) (by (first | omega | (simp; done) | (simp; omega)))))))⟩
  rw [hok] at HR
  cases hk : keyOk n
  · have HO := Lib.hid (rewOk_key (r := r) (c := c) hk)
    rw [rewC_no HO.out, HO.out]
    rw [hk] at HI
    go_enter Try.func20, Try.ntmps20
    go_wp2_with fail
    refine (HR.out _ (by (repeat (first | (with_reducible exact Below.refl _ _) | (with_reducible assumption) | ((with_reducible refine Below.setCell ?_ ?_ _); rotate_left; focus (first | omega | (simp; done) | (simp; omega))) | ((with_reducible refine Below.alloc ?_ ?_ _); rotate_left; focus (first | omega | (simp; done) | (simp; omega))) | (with_reducible refine Below.drew ?_) | (with_reducible refine below_drewN ?_ _) | (refine Below.trans ?_ (Below.mono (by with_reducible assumption) (by (first | omega | (simp; done) | (simp; omega))))))))).mono ?_
    rintro e w1 ⟨rfl, hb1⟩
    have hz1 := hb1.size; try simp at hz1
    have BK2 := (by (repeat (first | (with_reducible assumption) | ((with_reducible refine Blk.new' ?_); focus (simp; done)) | (with_reducible refine Blk.alloc ?_ _) | (with_reducible refine Blk.drew ?_) | (with_reducible refine Blk.drewN ?_ _) | ((with_reducible refine Blk.far ?_ ?_ _); rotate_left; focus (first | omega | (simp; done) | (simp; omega))) | (refine Blk.keep ?_ (by with_reducible assumption)) | (refine Blk.below ?_ (by with_reducible assumption) (by (first | omega | (simp; done) | (simp; omega)))))) : Blk w1 (w.heap.size + 2) 38 #[.int .i64 0, .int .i64 0, .slice none 0 0, .int .i64 0]); have hc2 := BK2.cell; have hf2 := BK2.frozen
    go_wp2_with (go_at_call 44; refine (HI.out _).mono ?_; rintro e w' ⟨rfl, rfl⟩)
    refine bodyPost_ret (v := .tuple #[.agg #[.int .i64 0, .int .i64 0, .slice none 0 0, .int .i64 0], .bool false]) (by simp [results, Try.results20, go_sem, hc2, hf2]) rfl ⟨[.int .i64 0, .int .i64 0, .slice none 0 0, .int .i64 0], rfl, zero_own_Cipher _ _, by (repeat (first | (with_reducible exact Below.refl _ _) | (with_reducible assumption) | ((with_reducible refine Below.setCell ?_ ?_ _); rotate_left; focus (first | omega | (simp; done) | (simp; omega))) | ((with_reducible refine Below.alloc ?_ ?_ _); rotate_left; focus (first | omega | (simp; done) | (simp; omega))) | (with_reducible refine Below.drew ?_) | (with_reducible refine below_drewN ?_ _) | (refine Below.trans ?_ (Below.mono (by with_reducible assumption) (by (first | omega | (simp; done) | (simp; omega)))))))⟩
  rw [hk] at HI
  obtain ⟨N, rfl, hN⟩ := keyOk_nat hk
  have hb := HB.out hok
  clear HB
  have hl := openB_len r c
  cases ho : openOk r c
  · have HO := Lib.hid (rewOk_open (n := N) ho)
    rw [rewC_no HO.out, HO.out]
    rw [ho] at hb
    have HB := Lib.hid hb
    clear hb
    generalize openB r c = ys at *
    go_enter Try.func20, Try.ntmps20
    go_wp2_with fail
    refine (HR.out _ (by (repeat (first | (with_reducible exact Below.refl _ _) | (with_reducible assumption) | ((with_reducible refine Below.setCell ?_ ?_ _); rotate_left; focus (first | omega | (simp; done) | (simp; omega))) | ((with_reducible refine Below.alloc ?_ ?_ _); rotate_left; focus (first | omega | (simp; done) | (simp; omega))) | (with_reducible refine Below.drew ?_) | (with_reducible refine below_drewN ?_ _) | (refine Below.trans ?_ (Below.mono (by with_reducible assumption) (by (first | omega | (simp; done) | (simp; omega))))))))).mono ?_
    rintro e w1 ⟨rfl, hb1⟩
    have hz1 := hb1.size; try simp at hz1
    have BK0 := (by (repeat (first | (with_reducible assumption) | ((with_reducible refine Blk.new' ?_); focus (simp; done)) | (with_reducible refine Blk.alloc ?_ _) | (with_reducible refine Blk.drew ?_) | (with_reducible refine Blk.drewN ?_ _) | ((with_reducible refine Blk.far ?_ ?_ _); rotate_left; focus (first | omega | (simp; done) | (simp; omega))) | (refine Blk.keep ?_ (by with_reducible assumption)) | (refine Blk.below ?_ (by with_reducible assumption) (by (first | omega | (simp; done) | (simp; omega)))))) : Blk w1 w.heap.size 34 #[.int .i64 r.First, .slice A0 r.Secrets.length c0]); have hc0 := BK0.cell; have hf0 := BK0.frozen
    have BK1 := (by (repeat (first | (with_reducible assumption) | ((with_reducible refine Blk.new' ?_); focus (simp; done)) | (with_reducible refine Blk.alloc ?_ _) | (with_reducible refine Blk.drew ?_) | (with_reducible refine Blk.drewN ?_ _) | ((with_reducible refine Blk.far ?_ ?_ _); rotate_left; focus (first | omega | (simp; done) | (simp; omega))) | (refine Blk.keep ?_ (by with_reducible assumption)) | (refine Blk.below ?_ (by with_reducible assumption) (by (first | omega | (simp; done) | (simp; omega)))))) : Blk w1 (w.heap.size + 1) 38 #[.int .i64 c.Version, .int .i64 c.Nonce, .slice A1 c.Data.length c1, .int .i64 c.Tag]); have hc1 := BK1.cell; have hf1 := BK1.frozen
    have BK2 := (by (repeat (first | (with_reducible assumption) | ((with_reducible refine Blk.new' ?_); focus (simp; done)) | (with_reducible refine Blk.alloc ?_ _) | (with_reducible refine Blk.drew ?_) | (with_reducible refine Blk.drewN ?_ _) | ((with_reducible refine Blk.far ?_ ?_ _); rotate_left; focus (first | omega | (simp; done) | (simp; omega))) | (refine Blk.keep ?_ (by with_reducible assumption)) | (refine Blk.below ?_ (by with_reducible assumption) (by (first | omega | (simp; done) | (simp; omega)))))) : Blk w1 (w.heap.size + 2) 38 #[.int .i64 0, .int .i64 0, .slice none 0 0, .int .i64 0]); have hc2 := BK2.cell; have hf2 := BK2.frozen
    go_wp2_with (go_at_call 44; refine (HI.out _).mono ?_; rintro e w' ⟨rfl, rfl⟩)
    refine (HB.out _ (by (repeat (first | (with_reducible exact Below.refl _ _) | (with_reducible assumption) | ((with_reducible refine Below.setCell ?_ ?_ _); rotate_left; focus (first | omega | (simp; done) | (simp; omega))) | ((with_reducible refine Below.alloc ?_ ?_ _); rotate_left; focus (first | omega | (simp; done) | (simp; omega))) | (with_reducible refine Below.drew ?_) | (with_reducible refine below_drewN ?_ _) | (refine Below.trans ?_ (Below.mono (by with_reducible assumption) (by (first | omega | (simp; done) | (simp; omega))))))))).mono ?_
    rintro e w2 ⟨D, d, rfl, ho2, hb2⟩
    have hz2 := hb2.size; try simp at hz2
    replace BK2 := BK2.keep hb2; replace hc2 := BK2.cell; replace hf2 := BK2.frozen
    go_wp2
    refine bodyPost_ret (v := .tuple #[.agg #[.int .i64 0, .int .i64 0, .slice none 0 0, .int .i64 0], .bool false]) (by simp [results, Try.results20, go_sem, hc2, hf2]) rfl ⟨[.int .i64 0, .int .i64 0, .slice none 0 0, .int .i64 0], rfl, zero_own_Cipher _ _, by (repeat (first | (with_reducible exact Below.refl _ _) | (with_reducible assumption) | ((with_reducible refine Below.setCell ?_ ?_ _); rotate_left; focus (first | omega | (simp; done) | (simp; omega))) | ((with_reducible refine Below.alloc ?_ ?_ _); rotate_left; focus (first | omega | (simp; done) | (simp; omega))) | (with_reducible refine Below.drew ?_) | (with_reducible refine below_drewN ?_ _) | (refine Below.trans ?_ (Below.mono (by with_reducible assumption) (by (first | omega | (simp; done) | (simp; omega)))))))⟩
  have HO := Lib.hid (rewOk_ok hk ho)
  rw [rewC_ok HO.out, HO.out]
  rw [ho] at hb
  have HB := Lib.hid hb
  clear hb
  have HML := Lib.hid (mask_len (lastK r) N (openB r c))
  generalize openB r c = ys at *
  have HS := Lib.hid (fun (D : Option Addr) (d : Nat) (w' : World) (hb : Below w.heap.size w w') (hr : Reads w' w'.heap.size D (ys.map byteV)) => impl_ringSeal [.int .i64 r.First, .slice A0 r.Secrets.length c0] r N D d ys w' (KeyRingR.rd_keep h0 hb hb.size) hr hN hl hok)
  generalize tagL (lastK r) N (maskB (lastK r) N ys) = tg at *
  generalize maskB (lastK r) N ys = zs at *
  generalize ys.length = m at *
  obtain ⟨vv, hvv⟩ : ∃ vv, r.First + ((r.Secrets.length : Int) - 1) = vv := ⟨_, rfl⟩
  rw [hvv] at HS ⊢
  clear hvv
  go_enter Try.func20, Try.ntmps20
  go_wp2_with fail
  refine (HR.out _ (by (repeat (first | (with_reducible exact Below.refl _ _) | (with_reducible assumption) | ((with_reducible refine Below.setCell ?_ ?_ _); rotate_left; focus (first | omega | (simp; done) | (simp; omega))) | ((with_reducible refine Below.alloc ?_ ?_ _); rotate_left; focus (first | omega | (simp; done) | (simp; omega))) | (with_reducible refine Below.drew ?_) | (with_reducible refine below_drewN ?_ _) | (refine Below.trans ?_ (Below.mono (by with_reducible assumption) (by (first | omega | (simp; done) | (simp; omega))))))))).mono ?_
  rintro e w1 ⟨rfl, hb1⟩
  have hz1 := hb1.size; try simp at hz1
  have BK0 := (by (repeat (first | (with_reducible assumption) | ((with_reducible refine Blk.new' ?_); focus (simp; done)) | (with_reducible refine Blk.alloc ?_ _) | (with_reducible refine Blk.drew ?_) | (with_reducible refine Blk.drewN ?_ _) | ((with_reducible refine Blk.far ?_ ?_ _); rotate_left; focus (first | omega | (simp; done) | (simp; omega))) | (refine Blk.keep ?_ (by with_reducible assumption)) | (refine Blk.below ?_ (by with_reducible assumption) (by (first | omega | (simp; done) | (simp; omega)))))) : Blk w1 w.heap.size 34 #[.int .i64 r.First, .slice A0 r.Secrets.length c0]); have hc0 := BK0.cell; have hf0 := BK0.frozen
  have BK1 := (by (repeat (first | (with_reducible assumption) | ((with_reducible refine Blk.new' ?_); focus (simp; done)) | (with_reducible refine Blk.alloc ?_ _) | (with_reducible refine Blk.drew ?_) | (with_reducible refine Blk.drewN ?_ _) | ((with_reducible refine Blk.far ?_ ?_ _); rotate_left; focus (first | omega | (simp; done) | (simp; omega))) | (refine Blk.keep ?_ (by with_reducible assumption)) | (refine Blk.below ?_ (by with_reducible assumption) (by (first | omega | (simp; done) | (simp; omega)))))) : Blk w1 (w.heap.size + 1) 38 #[.int .i64 c.Version, .int .i64 c.Nonce, .slice A1 c.Data.length c1, .int .i64 c.Tag]); have hc1 := BK1.cell; have hf1 := BK1.frozen
  have BK2 := (by (repeat (first | (with_reducible assumption) | ((with_reducible refine Blk.new' ?_); focus (simp; done)) | (with_reducible refine Blk.alloc ?_ _) | (with_reducible refine Blk.drew ?_) | (with_reducible refine Blk.drewN ?_ _) | ((with_reducible refine Blk.far ?_ ?_ _); rotate_left; focus (first | omega | (simp; done) | (simp; omega))) | (refine Blk.keep ?_ (by with_reducible assumption)) | (refine Blk.below ?_ (by with_reducible assumption) (by (first | omega | (simp; done) | (simp; omega)))))) : Blk w1 (w.heap.size + 2) 38 #[.int .i64 0, .int .i64 0, .slice none 0 0, .int .i64 0]); have hc2 := BK2.cell; have hf2 := BK2.frozen
  go_wp2_with (go_at_call 44; refine (HI.out _).mono ?_; rintro e w' ⟨rfl, rfl⟩)
  refine (HB.out _ (by (repeat (first | (with_reducible exact Below.refl _ _) | (with_reducible assumption) | ((with_reducible refine Below.setCell ?_ ?_ _); rotate_left; focus (first | omega | (simp; done) | (simp; omega))) | ((with_reducible refine Below.alloc ?_ ?_ _); rotate_left; focus (first | omega | (simp; done) | (simp; omega))) | (with_reducible refine Below.drew ?_) | (with_reducible refine below_drewN ?_ _) | (refine Below.trans ?_ (Below.mono (by with_reducible assumption) (by (first | omega | (simp; done) | (simp; omega))))))))).mono ?_
  rintro e w2 ⟨D, d, rfl, ho2, hb2⟩
  have hz2 := hb2.size; try simp at hz2
  replace BK0 := BK0.keep hb2; replace hc0 := BK0.cell; replace hf0 := BK0.frozen
  replace BK2 := BK2.keep hb2; replace hc2 := BK2.cell; replace hf2 := BK2.frozen
  go_wp2_with fail
  refine (HS.out _ _ _ (by (repeat (first | (with_reducible exact Below.refl _ _) | (with_reducible assumption) | ((with_reducible refine Below.setCell ?_ ?_ _); rotate_left; focus (first | omega | (simp; done) | (simp; omega))) | ((with_reducible refine Below.alloc ?_ ?_ _); rotate_left; focus (first | omega | (simp; done) | (simp; omega))) | (with_reducible refine Below.drew ?_) | (with_reducible refine below_drewN ?_ _) | (refine Below.trans ?_ (Below.mono (by with_reducible assumption) (by (first | omega | (simp; done) | (simp; omega)))))))) (Reads.of_own ho2)).mono ?_
  rintro e w3 ⟨E, d3, rfl, ho3, hb3⟩
  have hz3 := hb3.size; try simp at hz3
  replace BK2 := BK2.keep hb3; replace hc2 := BK2.cell; replace hf2 := BK2.frozen
  go_wp2
  refine bodyPost_ret (v := .tuple #[.agg #[.int .i64 vv, .int .i64 N, .slice E m d3, .int .i64 tg], .bool true]) (by simp [results, Try.results20, go_sem, hc2, hf2]) rfl ⟨[.int .i64 vv, .int .i64 N, .slice E m d3, .int .i64 tg], rfl, ?_, by (repeat (first | (with_reducible exact Below.refl _ _) | (with_reducible assumption) | ((with_reducible refine Below.setCell ?_ ?_ _); rotate_left; focus (first | omega | (simp; done) | (simp; omega))) | ((with_reducible refine Below.alloc ?_ ?_ _); rotate_left; focus (first | omega | (simp; done) | (simp; omega))) | (with_reducible refine Below.drew ?_) | (with_reducible refine below_drewN ?_ _) | (refine Below.trans ?_ (Below.mono (by with_reducible assumption) (by (first | omega | (simp; done) | (simp; omega)))))))⟩
  refine own_Cipher_row HML.out ?_
  refine own_base (base := w2.heap.size) ?_ (by omega)
  (repeat (first | (with_reducible exact ho3) | ((with_reducible refine own_setCell ?_ ?_ _); rotate_left; focus (first | omega | (simp; done) | (simp; omega))) | (with_reducible refine World.ownsRow.alloc ?_ _) | (with_reducible refine own_drew ?_) | (with_reducible refine own_drewN ?_ _) | (refine own_below ?_ (by with_reducible assumption))))
end Go.Proofs.Ytlncnicpiadaaaa

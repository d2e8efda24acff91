/- RingOpen of the reference. -/
import Derived.Test.YtlncnicpiadaaaaSpecRing
set_option linter.unusedSimpArgs false
set_option linter.unusedVariables false
set_option maxRecDepth 20000
namespace Go.Proofs.Ytlncnicpiadaaaa
open Go.RowKit
set_option maxHeartbeats 1600000 in
theorem spec_RingOpen (cs0 : List Value) (r : KeyRing) (cs1 : List Value) (c : Cipher) (w : World) (h0 : KeyRingR.Rd w w.heap.size cs0 r) (h1 : CipherR.Rd w w.heap.size cs1 c) (m0 : KeyRingR.sz r ≤ 1048576) (m1 : CipherR.sz c ≤ 1048576) :
    Calls Try.prog 8 #[.agg cs0.toArray, .agg cs1.toArray] w fun e w' => ∃ v, e = .returned (.tuple #[v, .bool (openOk r c)]) ∧ SlOwn byteR 5 w' (InR w.heap.size w'.heap.size) v (openB r c) ∧ Below w.heap.size w w' := by
  obtain ⟨v0, rfl, q0⟩ := rd_KeyRing h0
  obtain ⟨A0, c0, rfl⟩ := q0.form
  have r0 := (rd_IntS q0).2.1
  obtain ⟨v1, rfl, q1⟩ := rd_Cipher h1
  obtain ⟨A1, c1, rfl⟩ := q1.form
  rw [sz_Cipher] at m1
  have HR := Lib.hid (fun (w' : World) (hb : Below w.heap.size w w') => spec_RingOk [.int .i64 r.First, .slice A0 r.Secrets.length c0] r w' (KeyRingR.rd_keep h0 hb hb.size) m0)
  cases hok : ringOk r
  · rw [openB_no (openOk_ring hok), openOk_ring hok]
    rw [hok] at HR
    go_enter Try.func8, Try.ntmps8
    go_wp2_with fail
    refine (HR.out _ (by (repeat (first | (with_reducible exact Below.refl _ _) | (with_reducible assumption) | ((with_reducible refine Below.setCell ?_ ?_ _); rotate_left; focus (first | omega | (simp; done) | (simp; omega))) | ((with_reducible refine Below.alloc ?_ ?_ _); rotate_left; focus (first | omega | (simp; done) | (simp; omega))) | (with_reducible refine Below.drew ?_) | (with_reducible refine below_drewN ?_ _) | (refine Below.trans ?_ (Below.mono (by with_reducible assumption) (by (first | omega | (simp; done) | (simp; omega))))))))).mono ?_
    rintro e w1 ⟨rfl, hb1⟩
    have hz1 := hb1.size; try simp at hz1
    go_wp2
    go_ret2
    exact ⟨.slice none 0 0, rfl, of_own_in_ByteS (nil_own _ _), by (repeat (first | (with_reducible exact Below.refl _ _) | (with_reducible assumption) | ((with_reducible refine Below.setCell ?_ ?_ _); rotate_left; focus (first | omega | (simp; done) | (simp; omega))) | ((with_reducible refine Below.alloc ?_ ?_ _); rotate_left; focus (first | omega | (simp; done) | (simp; omega))) | (with_reducible refine Below.drew ?_) | (with_reducible refine below_drewN ?_ _) | (refine Below.trans ?_ (Below.mono (by with_reducible assumption) (by (first | omega | (simp; done) | (simp; omega)))))))⟩
  rw [hok] at HR
  obtain ⟨p1, p2, p3, p4, -⟩ := ringOk_parts hok
  cases hv : verOk r c
  · rw [openB_no (openOk_ver hv), openOk_ver hv]
    unfold verOk at hv
    have HV := Lib.hid (fun w => spec_l01In_b hv w)
    go_enter Try.func8, Try.ntmps8
    go_wp2_with fail
    refine (HR.out _ (by (repeat (first | (with_reducible exact Below.refl _ _) | (with_reducible assumption) | ((with_reducible refine Below.setCell ?_ ?_ _); rotate_left; focus (first | omega | (simp; done) | (simp; omega))) | ((with_reducible refine Below.alloc ?_ ?_ _); rotate_left; focus (first | omega | (simp; done) | (simp; omega))) | (with_reducible refine Below.drew ?_) | (with_reducible refine below_drewN ?_ _) | (refine Below.trans ?_ (Below.mono (by with_reducible assumption) (by (first | omega | (simp; done) | (simp; omega))))))))).mono ?_
    rintro e w1 ⟨rfl, hb1⟩
    have hz1 := hb1.size; try simp at hz1
    have BK0 := (by (repeat (first | (with_reducible assumption) | ((with_reducible refine Blk.new' ?_); focus (simp; done)) | (with_reducible refine Blk.alloc ?_ _) | (with_reducible refine Blk.drew ?_) | (with_reducible refine Blk.drewN ?_ _) | ((with_reducible refine Blk.far ?_ ?_ _); rotate_left; focus (first | omega | (simp; done) | (simp; omega))) | (refine Blk.keep ?_ (by with_reducible assumption)) | (refine Blk.below ?_ (by with_reducible assumption) (by (first | omega | (simp; done) | (simp; omega)))))) : Blk w1 w.heap.size 34 #[.int .i64 r.First, .slice A0 r.Secrets.length c0]); have hc0 := BK0.cell; have hf0 := BK0.frozen
    have BK1 := (by (repeat (first | (with_reducible assumption) | ((with_reducible refine Blk.new' ?_); focus (simp; done)) | (with_reducible refine Blk.alloc ?_ _) | (with_reducible refine Blk.drew ?_) | (with_reducible refine Blk.drewN ?_ _) | ((with_reducible refine Blk.far ?_ ?_ _); rotate_left; focus (first | omega | (simp; done) | (simp; omega))) | (refine Blk.keep ?_ (by with_reducible assumption)) | (refine Blk.below ?_ (by with_reducible assumption) (by (first | omega | (simp; done) | (simp; omega)))))) : Blk w1 (w.heap.size + 1) 38 #[.int .i64 c.Version, .int .i64 c.Nonce, .slice A1 c.Data.length c1, .int .i64 c.Tag]); have hc1 := BK1.cell; have hf1 := BK1.frozen
    go_wp2_with (go_at_call 34; refine (HV.out _).mono ?_; rintro e w' ⟨rfl, rfl⟩)
    go_ret2
    exact ⟨.slice none 0 0, rfl, of_own_in_ByteS (nil_own _ _), by (repeat (first | (with_reducible exact Below.refl _ _) | (with_reducible assumption) | ((with_reducible refine Below.setCell ?_ ?_ _); rotate_left; focus (first | omega | (simp; done) | (simp; omega))) | ((with_reducible refine Below.alloc ?_ ?_ _); rotate_left; focus (first | omega | (simp; done) | (simp; omega))) | (with_reducible refine Below.drew ?_) | (with_reducible refine below_drewN ?_ _) | (refine Below.trans ?_ (Below.mono (by with_reducible assumption) (by (first | omega | (simp; done) | (simp; omega)))))))⟩
  · rw [openB_box hok hv, openOk_box hok hv]
    obtain ⟨k, K, hk1, hk2, hk3, hK, hk4⟩ := ver_key hok hv
    rw [hk4]
    have HB := Lib.hid (fun (w' : World) (hb : Below w.heap.size w w') => spec_OpenBox K [.int .i64 c.Nonce, .slice A1 c.Data.length c1, .int .i64 c.Tag] c.box w' (of_rd_Box (x := c.box) (q1.keep hb hb.size)) hK (by rw [sz_Box]; exact m1))
    generalize boxB K c.box = ys at *
    generalize boxOk K c.box = bb at *
    have hcl : k < (r.Secrets.map intV).length := by simpa using hk2
    obtain ⟨b, off, rfl, hab, hcs⟩ := r0.get (u := .int .i64 (K : Int)) (by rw [List.getElem?_map, hk3]; rfl) (Below.refl _ _) (Nat.le_refl _)
    have HW2 : True := trivial
    unfold verOk at hv
    have hsub : IntKind.i64.wrap (c.Version - r.First) = (k : Int) := (IntWalk.i64_in _ (by omega)).trans (by omega)
    have HK1 := Lib.hid hk1
    have hk0 : (0 : Int) ≤ (k : Int) := by omega
    have hki : (k : Int) < (r.Secrets.length : Int) := by omega
    have hkn : ¬ (k : Int) < 0 := by omega
    clear hk1
    have HV := Lib.hid (fun w => spec_l01In_b hv w)
    go_enter Try.func8, Try.ntmps8
    go_wp2_with fail
    refine (HR.out _ (by (repeat (first | (with_reducible exact Below.refl _ _) | (with_reducible assumption) | ((with_reducible refine Below.setCell ?_ ?_ _); rotate_left; focus (first | omega | (simp; done) | (simp; omega))) | ((with_reducible refine Below.alloc ?_ ?_ _); rotate_left; focus (first | omega | (simp; done) | (simp; omega))) | (with_reducible refine Below.drew ?_) | (with_reducible refine below_drewN ?_ _) | (refine Below.trans ?_ (Below.mono (by with_reducible assumption) (by (first | omega | (simp; done) | (simp; omega))))))))).mono ?_
    rintro e w1 ⟨rfl, hb1⟩
    have hz1 := hb1.size; try simp at hz1
    have BK0 := (by (repeat (first | (with_reducible assumption) | ((with_reducible refine Blk.new' ?_); focus (simp; done)) | (with_reducible refine Blk.alloc ?_ _) | (with_reducible refine Blk.drew ?_) | (with_reducible refine Blk.drewN ?_ _) | ((with_reducible refine Blk.far ?_ ?_ _); rotate_left; focus (first | omega | (simp; done) | (simp; omega))) | (refine Blk.keep ?_ (by with_reducible assumption)) | (refine Blk.below ?_ (by with_reducible assumption) (by (first | omega | (simp; done) | (simp; omega)))))) : Blk w1 w.heap.size 34 #[.int .i64 r.First, .slice (some ⟨b, off, none⟩) r.Secrets.length c0]); have hc0 := BK0.cell; have hf0 := BK0.frozen
    have BK1 := (by (repeat (first | (with_reducible assumption) | ((with_reducible refine Blk.new' ?_); focus (simp; done)) | (with_reducible refine Blk.alloc ?_ _) | (with_reducible refine Blk.drew ?_) | (with_reducible refine Blk.drewN ?_ _) | ((with_reducible refine Blk.far ?_ ?_ _); rotate_left; focus (first | omega | (simp; done) | (simp; omega))) | (refine Blk.keep ?_ (by with_reducible assumption)) | (refine Blk.below ?_ (by with_reducible assumption) (by (first | omega | (simp; done) | (simp; omega)))))) : Blk w1 (w.heap.size + 1) 38 #[.int .i64 c.Version, .int .i64 c.Nonce, .slice A1 c.Data.length c1, .int .i64 c.Tag]); have hc1 := BK1.cell; have hf1 := BK1.frozen
    go_wp2_with (go_at_call 34; refine (HV.out _).mono ?_; rintro e w' ⟨rfl, rfl⟩)
    have hw2 : Below w.heap.size w w1 := by (repeat (first | (with_reducible exact Below.refl _ _) | (with_reducible assumption) | ((with_reducible refine Below.setCell ?_ ?_ _); rotate_left; focus (first | omega | (simp; done) | (simp; omega))) | ((with_reducible refine Below.alloc ?_ ?_ _); rotate_left; focus (first | omega | (simp; done) | (simp; omega))) | (with_reducible refine Below.drew ?_) | (with_reducible refine below_drewN ?_ _) | (refine Below.trans ?_ (Below.mono (by with_reducible assumption) (by (first | omega | (simp; done) | (simp; omega)))))))
    have HCW := Lib.hid (fun (w' : World) (hb : Below w.heap.size w w') => (hb.cell (p := ⟨b, off + k, none⟩) hab).trans hcs)
    have hzw := hw2.size
    go_region_held3 (fun w' => w'.cell? ⟨w.heap.size, 0, none⟩ = some (.int .i64 r.First) ∧ w'.cell? ⟨w.heap.size, 1, none⟩ = some (.slice (some ⟨b, off, none⟩) r.Secrets.length c0) ∧ w'.cell? ⟨w.heap.size + 1, 0, none⟩ = some (.int .i64 c.Version) ∧ w'.cell? ⟨w.heap.size + 1, 1, none⟩ = some (.int .i64 c.Nonce) ∧ w'.cell? ⟨w.heap.size + 1, 2, none⟩ = some (.slice A1 c.Data.length c1) ∧ w'.cell? ⟨w.heap.size + 1, 3, none⟩ = some (.int .i64 c.Tag) ∧ w'.cell? ⟨b, off + k, none⟩ = some (.int .i64 (K : Int)))
      (first | exact ⟨Blk.cell (t := 34) (cs := #[.int .i64 r.First, .slice (some ⟨b, off, none⟩) r.Secrets.length c0]) (by (repeat (first | (with_reducible assumption) | ((with_reducible refine Blk.new' ?_); focus (simp; done)) | (with_reducible refine Blk.alloc ?_ _) | (with_reducible refine Blk.drew ?_) | (with_reducible refine Blk.drewN ?_ _) | ((with_reducible refine Blk.far ?_ ?_ _); rotate_left; focus (first | omega | (simp; done) | (simp; omega))) | (refine Blk.keep ?_ (by with_reducible assumption)) | (refine Blk.below ?_ (by with_reducible assumption) (by (first | omega | (simp; done) | (simp; omega))))))) 0, Blk.cell (t := 34) (cs := #[.int .i64 r.First, .slice (some ⟨b, off, none⟩) r.Secrets.length c0]) (by (repeat (first | (with_reducible assumption) | ((with_reducible refine Blk.new' ?_); focus (simp; done)) | (with_reducible refine Blk.alloc ?_ _) | (with_reducible refine Blk.drew ?_) | (with_reducible refine Blk.drewN ?_ _) | ((with_reducible refine Blk.far ?_ ?_ _); rotate_left; focus (first | omega | (simp; done) | (simp; omega))) | (refine Blk.keep ?_ (by with_reducible assumption)) | (refine Blk.below ?_ (by with_reducible assumption) (by (first | omega | (simp; done) | (simp; omega))))))) 1, Blk.cell (t := 38) (cs := #[.int .i64 c.Version, .int .i64 c.Nonce, .slice A1 c.Data.length c1, .int .i64 c.Tag]) (by (repeat (first | (with_reducible assumption) | ((with_reducible refine Blk.new' ?_); focus (simp; done)) | (with_reducible refine Blk.alloc ?_ _) | (with_reducible refine Blk.drew ?_) | (with_reducible refine Blk.drewN ?_ _) | ((with_reducible refine Blk.far ?_ ?_ _); rotate_left; focus (first | omega | (simp; done) | (simp; omega))) | (refine Blk.keep ?_ (by with_reducible assumption)) | (refine Blk.below ?_ (by with_reducible assumption) (by (first | omega | (simp; done) | (simp; omega))))))) 0, Blk.cell (t := 38) (cs := #[.int .i64 c.Version, .int .i64 c.Nonce, .slice A1 c.Data.length c1, .int .i64 c.Tag]) (by (repeat (first | (with_reducible assumption) | ((with_reducible refine Blk.new' ?_); focus (simp; done)) | (with_reducible refine Blk.alloc ?_ _) | (with_reducible refine Blk.drew ?_) | (with_reducible refine Blk.drewN ?_ _) | ((with_reducible refine Blk.far ?_ ?_ _); rotate_left; focus (first | omega | (simp; done) | (simp; omega))) | (refine Blk.keep ?_ (by with_reducible assumption)) | (refine Blk.below ?_ (by with_reducible assumption) (by (first | omega | (simp; done) | (simp; omega))))))) 1, Blk.cell (t := 38) (cs := #[.int .i64 c.Version, .int .i64 c.Nonce, .slice A1 c.Data.length c1, .int .i64 c.Tag]) (by (repeat (first | (with_reducible assumption) | ((with_reducible refine Blk.new' ?_); focus (simp; done)) | (with_reducible refine Blk.alloc ?_ _) | (with_reducible refine Blk.drew ?_) | (with_reducible refine Blk.drewN ?_ _) | ((with_reducible refine Blk.far ?_ ?_ _); rotate_left; focus (first | omega | (simp; done) | (simp; omega))) | (refine Blk.keep ?_ (by with_reducible assumption)) | (refine Blk.below ?_ (by with_reducible assumption) (by (first | omega | (simp; done) | (simp; omega))))))) 2, Blk.cell (t := 38) (cs := #[.int .i64 c.Version, .int .i64 c.Nonce, .slice A1 c.Data.length c1, .int .i64 c.Tag]) (by (repeat (first | (with_reducible assumption) | ((with_reducible refine Blk.new' ?_); focus (simp; done)) | (with_reducible refine Blk.alloc ?_ _) | (with_reducible refine Blk.drew ?_) | (with_reducible refine Blk.drewN ?_ _) | ((with_reducible refine Blk.far ?_ ?_ _); rotate_left; focus (first | omega | (simp; done) | (simp; omega))) | (refine Blk.keep ?_ (by with_reducible assumption)) | (refine Blk.below ?_ (by with_reducible assumption) (by (first | omega | (simp; done) | (simp; omega))))))) 3, HCW.out _ (by (repeat (first | (with_reducible exact Below.refl _ _) | (with_reducible assumption) | ((with_reducible refine Below.setCell ?_ ?_ _); rotate_left; focus (first | omega | (simp; done) | (simp; omega))) | ((with_reducible refine Below.alloc ?_ ?_ _); rotate_left; focus (first | omega | (simp; done) | (simp; omega))) | (with_reducible refine Below.drew ?_) | (with_reducible refine below_drewN ?_ _) | (refine Below.trans ?_ (Below.mono (by with_reducible assumption) (by (first | omega | (simp; done) | (simp; omega))))))))⟩)
      (first | (go_at_call 35; ((with_reducible refine (HB.out _ ?_).mono ?_); (focus (repeat (first | (with_reducible exact Below.refl _ _) | (with_reducible assumption) | ((with_reducible refine Below.setCell ?_ ?_ _); rotate_left; focus (first | omega | (simp; done) | (simp; omega))) | ((with_reducible refine Below.alloc ?_ ?_ _); rotate_left; focus (first | omega | (simp; done) | (simp; omega))) | (with_reducible refine Below.drew ?_) | (with_reducible refine below_drewN ?_ _) | (refine Below.trans ?_ (Below.mono (by with_reducible assumption) (by (first | omega | (simp; done) | (simp; omega))))))))); rintro e w2 ⟨D, d, rfl, ho, hb2⟩))
    go_wp2
    go_ret2
    exact ⟨_, rfl, of_own_in_ByteS (own_base ho (by first | omega | (simp; done) | (simp; omega))), by (repeat (first | (with_reducible exact Below.refl _ _) | (with_reducible assumption) | ((with_reducible refine Below.setCell ?_ ?_ _); rotate_left; focus (first | omega | (simp; done) | (simp; omega))) | ((with_reducible refine Below.alloc ?_ ?_ _); rotate_left; focus (first | omega | (simp; done) | (simp; omega))) | (with_reducible refine Below.drew ?_) | (with_reducible refine below_drewN ?_ _) | (refine Below.trans ?_ (Below.mono (by with_reducible assumption) (by (first | omega | (simp; done) | (simp; omega)))))))⟩
end Go.Proofs.Ytlncnicpiadaaaa

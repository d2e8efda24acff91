/- TrimRing and RingSeal of the program, where they may. -/
import Derived.Test.YtlncnicpiadaaaaRotateL
import Derived.Test.YtlncnicpiadaaaaSpecBox
set_option linter.unusedSimpArgs false
set_option linter.unusedVariables false
set_option maxRecDepth 20000
namespace Go.Proofs.Ytlncnicpiadaaaa
open Go.RowKit
theorem Reads.dropk {w : World} {B b k : Nat} {xs : List Value} (h : Reads w B (some ⟨b, 0, none⟩) xs) : Reads w B (some ⟨b, k, none⟩) (xs.drop k) := fun h0 => by
  have h1 : 0 < xs.length := by rw [List.length_drop] at h0; omega
  obtain ⟨b', off, e, hb, hc⟩ := h h1
  simp only [Option.some.injEq, Addr.mk.injEq, and_true] at e
  obtain ⟨rfl, rfl⟩ := e
  refine ⟨b, k, rfl, hb, fun j u hu => ?_⟩
  rw [List.getElem?_drop] at hu
  have := hc (k + j) u hu
  rw [Nat.zero_add] at this
  exact this
theorem rd_dropk {w : World} {B g n cap k : Nat} {xs : List Int} (hn : xs.length = n) (h : SlRd intR w B (.slice (some ⟨g, 0, none⟩) n cap) xs) : SlRd intR w B (.slice (some ⟨g, k, none⟩) (n - k) (cap - k)) (xs.drop k) := by
  obtain ⟨-, hr, h1, h2⟩ := rd_IntS h
  have := of_rd_IntS (xs := xs.drop k) (c := cap - k) (by rw [List.map_drop]; exact Reads.dropk hr) (by rw [List.length_drop]; omega) (by omega)
  rwa [List.length_drop, hn] at this
set_option maxHeartbeats 3200000 in
theorem impl_TrimRing (cs : List Value) (r : KeyRing) (k : Nat) (w : World) (h : KeyRingR.Rd w w.heap.size cs r) (hok : ringOk r = true) (hk : k < r.Secrets.length) (hf : r.First + k ≤ 1000000) :
    Calls Try.prog 30 #[.agg cs.toArray, .int .i64 (r.First + k)] w fun e w' => ∃ v, e = .returned (.tuple #[.agg #[.int .i64 (r.First + k), v], .bool true]) ∧ SlRd intR w' w'.heap.size v (r.Secrets.drop k) ∧ Below w.heap.size w w' := by
  obtain ⟨v0, rfl, q0⟩ := rd_KeyRing h
  obtain ⟨A0, c0, rfl⟩ := q0.form
  obtain ⟨p1, p2, p3, p4, -⟩ := ringOk_parts hok
  have hm : KeyRingR.sz r ≤ 1048576 := by rw [sz_KeyRing, sz_IntS]; omega
  have HR := Lib.hid (fun (w' : World) (hb : Below w.heap.size w w') => impl_isRing [.int .i64 r.First, .slice A0 r.Secrets.length c0] r w' (KeyRingR.rd_keep h hb hb.size) hm)
  have HCl := Lib.hid (fun (w' : World) (hb : Below w.heap.size w w') => impl_cloneRing [.int .i64 r.First, .slice A0 r.Secrets.length c0] r w' (KeyRingR.rd_keep h hb hb.size) hm)
  rw [hok] at HR
  obtain ⟨n, hnn⟩ : ∃ n, r.Secrets.length = n := ⟨_, rfl⟩
  rw [hnn] at p3 p4 HR HCl hk
  have Hn := Lib.hid hnn
  clear h q0 hok hm
  rw [hnn]
  clear hnn
  have hwi : withinB (r.First + (k : Int)) r.First (r.First + (n : Int) - 1) = true := withinB_iff.2 (by omega)
  have hsub : IntKind.i64.wrap (r.First + (k : Int) - r.First) = (k : Int) := (IntWalk.i64_in _ (by omega)).trans (by omega)
  have hsub2 : r.First + (k : Int) - r.First = (k : Int) := by omega
  have hd : decide ((1000000 : Int) < r.First + (k : Int)) = false := by simp; omega
  have hk0 : (0 : Int) ≤ (k : Int) := by omega
  have hkn : (k : Int) ≤ (n : Int) := by omega
  have HW := Lib.hid hwi
  clear hwi
  go_enter Try.func30, Try.ntmps30
  go_wp2_with fail
  refine (HCl.out _ (by (repeat (first | (with_reducible exact Below.refl _ _) | (with_reducible assumption) | ((with_reducible refine Below.setCell ?_ ?_ _); rotate_left; focus (first | omega | (simp; done) | (simp; omega))) | ((with_reducible refine Below.alloc ?_ ?_ _); rotate_left; focus (first | omega | (simp; done) | (simp; omega))) | (with_reducible refine Below.drew ?_) | (with_reducible refine below_drewN ?_ _) | (refine Below.trans ?_ (Below.mono (by with_reducible assumption) (by (first | omega | (simp; done) | (simp; omega))))))))).mono ?_
  rintro e w1 ⟨D, d, rfl, ho1, hb1⟩
  have hz1 := hb1.size; try simp at hz1
  have BK0 := (by (repeat (first | (with_reducible assumption) | ((with_reducible refine Blk.new' ?_); focus (simp; done)) | (with_reducible refine Blk.alloc ?_ _) | (with_reducible refine Blk.drew ?_) | (with_reducible refine Blk.drewN ?_ _) | ((with_reducible refine Blk.far ?_ ?_ _); rotate_left; focus (first | omega | (simp; done) | (simp; omega))) | (refine Blk.keep ?_ (by with_reducible assumption)) | (refine Blk.below ?_ (by with_reducible assumption) (by (first | omega | (simp; done) | (simp; omega)))))) : Blk w1 w.heap.size 34 #[.int .i64 r.First, .slice A0 n c0]); have hc0 := BK0.cell; have hf0 := BK0.frozen
  have BK1 := (by (repeat (first | (with_reducible assumption) | ((with_reducible refine Blk.new' ?_); focus (simp; done)) | (with_reducible refine Blk.alloc ?_ _) | (with_reducible refine Blk.drew ?_) | (with_reducible refine Blk.drewN ?_ _) | ((with_reducible refine Blk.far ?_ ?_ _); rotate_left; focus (first | omega | (simp; done) | (simp; omega))) | (refine Blk.keep ?_ (by with_reducible assumption)) | (refine Blk.below ?_ (by with_reducible assumption) (by (first | omega | (simp; done) | (simp; omega)))))) : Blk w1 (w.heap.size + 1) 34 #[.int .i64 0, .slice none 0 0]); have hc1 := BK1.cell; have hf1 := BK1.frozen
  have hl0 := BK0.lt; have hl1 := BK1.lt
  obtain ⟨gg, cap, hv, hg1, hg2⟩ := ho1.form (by omega)
  simp only [Value.slice.injEq, true_and] at hv
  obtain ⟨rfl, rfl⟩ := hv
  have hgw : w.heap.size + 2 ≤ gg := by have h := hg1; simp at h; omega
  have hcap := own_ints Hn.out ho1
  have hcap2 := (rd_IntS (hcap.rd (B := w1.heap.size) (fun q hq => by omega))).2.2
  rw [Hn.out] at hcap2
  have hcap1 : ¬ d = k := by omega
  have hcapk : ¬ d - k = 0 := by omega
  have hso := hcap.below (w' := w1.alloc (.cells #[.int .i64 r.First, .slice (some ⟨gg, 0, none⟩) n d] 34)) (B := w1.heap.size) ((Below.refl _ _).alloc (Nat.le_refl _) _) (fun q hq => by omega)
  go_wp2_with fail
  refine (HR.out _ (by (repeat (first | (with_reducible exact Below.refl _ _) | (with_reducible assumption) | ((with_reducible refine Below.setCell ?_ ?_ _); rotate_left; focus (first | omega | (simp; done) | (simp; omega))) | ((with_reducible refine Below.alloc ?_ ?_ _); rotate_left; focus (first | omega | (simp; done) | (simp; omega))) | (with_reducible refine Below.drew ?_) | (with_reducible refine below_drewN ?_ _) | (refine Below.trans ?_ (Below.mono (by with_reducible assumption) (by (first | omega | (simp; done) | (simp; omega))))))))).mono ?_
  rintro e w2 ⟨rfl, hb2⟩
  have hz2 := hb2.size; try simp at hz2
  have hso2 := hso.below hb2 (fun q hq => by simp; omega)
  replace BK0 := (BK0.alloc (.cells #[.int .i64 r.First, .slice (some ⟨gg, 0, none⟩) n d] 34)).keep hb2; replace hc0 := BK0.cell; replace hf0 := BK0.frozen; replace hl0 := BK0.lt
  replace BK1 := (BK1.alloc (.cells #[.int .i64 r.First, .slice (some ⟨gg, 0, none⟩) n d] 34)).keep hb2; replace hc1 := BK1.cell; replace hf1 := BK1.frozen; replace hl1 := BK1.lt
  have BK6 : Blk w2 w1.heap.size 34 #[.int .i64 r.First, .slice (some ⟨gg, 0, none⟩) n d] := (Blk.new' rfl : Blk (w1.alloc (.cells #[.int .i64 r.First, .slice (some ⟨gg, 0, none⟩) n d] 34)) w1.heap.size 34 #[.int .i64 r.First, .slice (some ⟨gg, 0, none⟩) n d]).keep hb2
  have hc6 := BK6.cell; have hf6 := BK6.frozen
  go_wp2_with (go_at_call 53; refine (impl_within _ _ _ _).mono ?_; rintro e w' ⟨rfl, rfl⟩; rw [HW.out])
  refine bodyPost_ret (v := .tuple #[.agg #[.int .i64 (r.First + (k : Int)), .slice (some ⟨gg, k, none⟩) (n - k) (d - k)], .bool true]) (by simp [results, Try.results30, go_sem, hc1, hf1]) rfl ⟨.slice (some ⟨gg, k, none⟩) (n - k) (d - k), rfl, ?_, by (repeat (first | (with_reducible exact Below.refl _ _) | (with_reducible assumption) | ((with_reducible refine Below.setCell ?_ ?_ _); rotate_left; focus (first | omega | (simp; done) | (simp; omega))) | ((with_reducible refine Below.alloc ?_ ?_ _); rotate_left; focus (first | omega | (simp; done) | (simp; omega))) | (with_reducible refine Below.drew ?_) | (with_reducible refine below_drewN ?_ _) | (refine Below.trans ?_ (Below.mono (by with_reducible assumption) (by (first | omega | (simp; done) | (simp; omega)))))))⟩
  exact rd_dropk Hn.out ((hso2.out ((out_set _ _ _ _).trans (out_set _ _ _ _)) (fun q hq hq2 => by omega)).rd (fun q hq => by simp; omega))
set_option maxHeartbeats 1600000 in
theorem impl_RingSeal (cs : List Value) (r : KeyRing) (N : Nat) (A : Option Addr) (c : Nat) (xs : List UInt8) (w : World) (h : KeyRingR.Rd w w.heap.size cs r) (hr : Reads w w.heap.size A (xs.map byteV)) (hN : N ≤ 1099511627776) (hm : xs.length ≤ 2000) (hok : ringOk r = true) :
    Calls Try.prog 25 #[.agg cs.toArray, .int .i64 N, .slice A xs.length c] w fun e w' => ∃ A1 c1, e = .returned (.tuple #[.agg #[.int .i64 (r.First + ((r.Secrets.length : Int) - 1)), .int .i64 N, .slice A1 xs.length c1, .int .i64 (tagL (lastK r) N (maskB (lastK r) N xs))], .bool true]) ∧ w'.ownsRow w.heap.size 5 1 (.slice A1 xs.length c1) xs.length ((maskB (lastK r) N xs).map byteV) ∧ Below w.heap.size w w' := by
  obtain ⟨v0, rfl, q0⟩ := rd_KeyRing h
  obtain ⟨A0, c0, rfl⟩ := q0.form
  obtain ⟨p1, p2, p3, p4, -⟩ := ringOk_parts hok
  have HR := Lib.hid (fun (w' : World) (hb : Below w.heap.size w w') => impl_isRing [.int .i64 r.First, .slice A0 r.Secrets.length c0] r w' (KeyRingR.rd_keep h hb hb.size) (by rw [sz_KeyRing, sz_IntS]; omega))
  rw [hok] at HR
  have HK := Lib.hid (fun w => impl_isKey N w)
  rw [keyOk_of hN] at HK
  have HS := Lib.hid (fun (w' : World) (hb : Below w.heap.size w w') => impl_ringSeal [.int .i64 r.First, .slice A0 r.Secrets.length c0] r N A c xs w' (KeyRingR.rd_keep h hb hb.size) (hr.keep hb hb.size) hN hm hok)
  have hd : decide ((2000 : Int) < (xs.length : Int)) = false := by simp; omega
  generalize tagL (lastK r) N (maskB (lastK r) N xs) = tg at *
  generalize maskB (lastK r) N xs = ys at *
  generalize xs.length = n at *
  obtain ⟨vv, hvv⟩ : ∃ vv, r.First + ((r.Secrets.length : Int) - 1) = vv := ⟨_, rfl⟩
  rw [hvv] at HS ⊢
  clear hvv hr
  go_enter Try.func25, Try.ntmps25
  go_wp2_with fail
  refine (HR.out _ (by (repeat (first | (with_reducible exact Below.refl _ _) | (with_reducible assumption) | ((with_reducible refine Below.setCell ?_ ?_ _); rotate_left; focus (first | omega | (simp; done) | (simp; omega))) | ((with_reducible refine Below.alloc ?_ ?_ _); rotate_left; focus (first | omega | (simp; done) | (simp; omega))) | (with_reducible refine Below.drew ?_) | (with_reducible refine below_drewN ?_ _) | (refine Below.trans ?_ (Below.mono (by with_reducible assumption) (by (first | omega | (simp; done) | (simp; omega))))))))).mono ?_
  rintro e w1 ⟨rfl, hb1⟩
  have hz1 := hb1.size; try simp at hz1
  have BK0 := (by (repeat (first | (with_reducible assumption) | ((with_reducible refine Blk.new' ?_); focus (simp; done)) | (with_reducible refine Blk.alloc ?_ _) | (with_reducible refine Blk.drew ?_) | (with_reducible refine Blk.drewN ?_ _) | ((with_reducible refine Blk.far ?_ ?_ _); rotate_left; focus (first | omega | (simp; done) | (simp; omega))) | (refine Blk.keep ?_ (by with_reducible assumption)) | (refine Blk.below ?_ (by with_reducible assumption) (by (first | omega | (simp; done) | (simp; omega)))))) : Blk w1 w.heap.size 34 #[.int .i64 r.First, .slice A0 r.Secrets.length c0]); have hc0 := BK0.cell; have hf0 := BK0.frozen
  have BK1 := (by (repeat (first | (with_reducible assumption) | ((with_reducible refine Blk.new' ?_); focus (simp; done)) | (with_reducible refine Blk.alloc ?_ _) | (with_reducible refine Blk.drew ?_) | (with_reducible refine Blk.drewN ?_ _) | ((with_reducible refine Blk.far ?_ ?_ _); rotate_left; focus (first | omega | (simp; done) | (simp; omega))) | (refine Blk.keep ?_ (by with_reducible assumption)) | (refine Blk.below ?_ (by with_reducible assumption) (by (first | omega | (simp; done) | (simp; omega)))))) : Blk w1 (w.heap.size + 1) 38 #[.int .i64 0, .int .i64 0, .slice none 0 0, .int .i64 0]); have hc1 := BK1.cell; have hf1 := BK1.frozen
  go_wp2_with (go_at_call 44; refine (HK.out _).mono ?_; rintro e w' ⟨rfl, rfl⟩)
  refine (HS.out _ (by (repeat (first | (with_reducible exact Below.refl _ _) | (with_reducible assumption) | ((with_reducible refine Below.setCell ?_ ?_ _); rotate_left; focus (first | omega | (simp; done) | (simp; omega))) | ((with_reducible refine Below.alloc ?_ ?_ _); rotate_left; focus (first | omega | (simp; done) | (simp; omega))) | (with_reducible refine Below.drew ?_) | (with_reducible refine below_drewN ?_ _) | (refine Below.trans ?_ (Below.mono (by with_reducible assumption) (by (first | omega | (simp; done) | (simp; omega))))))))).mono ?_
  rintro e w2 ⟨D, d, rfl, ho, hb2⟩
  have hz2 := hb2.size; try simp at hz2
  replace BK1 := BK1.keep hb2; replace hc1 := BK1.cell; replace hf1 := BK1.frozen
  go_wp2
  refine bodyPost_ret (v := .tuple #[.agg #[.int .i64 vv, .int .i64 N, .slice D n d, .int .i64 tg], .bool true]) (by simp [results, Try.results25, go_sem, hc1, hf1]) rfl ⟨D, d, rfl, ?_, by (repeat (first | (with_reducible exact Below.refl _ _) | (with_reducible assumption) | ((with_reducible refine Below.setCell ?_ ?_ _); rotate_left; focus (first | omega | (simp; done) | (simp; omega))) | ((with_reducible refine Below.alloc ?_ ?_ _); rotate_left; focus (first | omega | (simp; done) | (simp; omega))) | (with_reducible refine Below.drew ?_) | (with_reducible refine below_drewN ?_ _) | (refine Below.trans ?_ (Below.mono (by with_reducible assumption) (by (first | omega | (simp; done) | (simp; omega)))))))⟩
  refine own_base (base := w1.heap.size) ?_ (by omega)
  (repeat (first | (with_reducible exact ho) | ((with_reducible refine own_setCell ?_ ?_ _); rotate_left; focus (first | omega | (simp; done) | (simp; omega))) | (with_reducible refine World.ownsRow.alloc ?_ _) | (with_reducible refine own_drew ?_) | (with_reducible refine own_drewN ?_ _) | (refine own_below ?_ (by with_reducible assumption))))
end Go.Proofs.Ytlncnicpiadaaaa

/- FnRotations: the walk of the law. -/
import Derived.Test.YtlncnicpiadaaaaKeeps
import Derived.Test.YtlncnicpiadaaaaSealAny
import Derived.Test.YtlncnicpiadaaaaDrawSeal
import Derived.Test.YtlncnicpiadaaaaAtLib
import Derived.Deep.DeepCutAuto
set_option linter.unusedSimpArgs false
set_option linter.unusedVariables false
set_option maxRecDepth 20000
namespace Go.Proofs.Ytlncnicpiadaaaa
open Go.RowKit
set_option maxRecDepth 20000 in
set_option maxHeartbeats 6400000 in
theorem law_FnRotations (v_code : Value) (code : List UInt8) (w : World) (hr_code : SlRd byteR w w.heap.size v_code code) :
    Calls Try.prog 5 #[v_code] w fun e w' => e = .returned (.bool true) ∧ Below w.heap.size w w' := by
  obtain ⟨A0, c0, rfl⟩ := SlRd.form hr_code
  obtain ⟨-, hrd, hcap1, hcap2⟩ := rd_ByteS hr_code
  have HBig := Lib.hid (fun (w' : World) => laws_big A0 code.length c0 w' (by omega))
  by_cases hbig : 1048576 < code.length
  · have hd : decide ((1048576 : Int) < (code.length : Int)) = true := by simp; omega
    rw [hd] at HBig
    go_enter Try.func5, Try.ntmps5
    go_wp2_with fail
    refine (HBig.out _).mono ?_
    rintro e w' ⟨rfl, rfl⟩
    go_wp2
    go_ret
    exact ⟨rfl, by (repeat (first | (with_reducible exact Below.refl _ _) | (with_reducible assumption) | ((with_reducible refine Below.setCell ?_ ?_ _); rotate_left; focus (first | omega | (simp; done) | (simp; omega))) | ((with_reducible refine Below.alloc ?_ ?_ _); rotate_left; focus (first | omega | (simp; done) | (simp; omega))) | (with_reducible refine Below.drew ?_) | (with_reducible refine below_drewN ?_ _) | (refine Below.trans ?_ (Below.mono (by with_reducible assumption) (by (first | omega | (simp; done) | (simp; omega)))))))⟩
  have hd : decide ((1048576 : Int) < (code.length : Int)) = false := by simp; omega
  rw [hd] at HBig
  have HD := Lib.hid (fun (w' : World) (hb : Below w.heap.size w w') => spec_DrawRingSeal A0 c0 code w' (hrd.keep hb hb.size) (by omega))
  have HAt := Lib.hid (fun (i : Nat) (w' : World) (hb : Below w.heap.size w w') (hi : i ≤ 1000000) => laws_at A0 c0 code i w' (hrd.keep hb hb.size) (by omega) hi)
  have hat := atV_bd code 0
  have HAtB := Lib.hid (fun i => atV_bd code i)
  generalize code.length = n0 at *
  generalize atV code = at_ at *
  clear hrd hr_code hcap1 hcap2 hbig
  go_enter Try.func5, Try.ntmps5
  go_wp2_with fail
  refine (HBig.out _).mono ?_
  rintro e w' ⟨rfl, rfl⟩
  go_wp2_with fail
  refine (HD.out _ (Below.refl _ _)).mono ?_
  rintro e w1 ⟨v, r, x, Ap, cp, xs, rfl, hl, hxl, hsr, hpr, hb1⟩
  obtain ⟨Ar, cr, rfl⟩ := hsr.form
  have hrr := (rd_IntS hsr).2.1
  have hz1 := hb1.size
  have hszr : KeyRingR.sz r ≤ 1048576 := by rw [sz_KeyRing, sz_IntS]; omega
  have hbA : Below w.heap.size w (w1.alloc (.cells #[.int .i64 r.First, .slice Ar r.Secrets.length cr] 34)) := by (repeat (first | (with_reducible exact Below.refl _ _) | (with_reducible assumption) | ((with_reducible refine Below.setCell ?_ ?_ _); rotate_left; focus (first | omega | (simp; done) | (simp; omega))) | ((with_reducible refine Below.alloc ?_ ?_ _); rotate_left; focus (first | omega | (simp; done) | (simp; omega))) | (with_reducible refine Below.drew ?_) | (with_reducible refine below_drewN ?_ _) | (refine Below.trans ?_ (Below.mono (by with_reducible assumption) (by (first | omega | (simp; done) | (simp; omega)))))))
  have B3 : Blk (w1.alloc (.cells #[.int .i64 r.First, .slice Ar r.Secrets.length cr] 34)) w1.heap.size 34 #[.int .i64 r.First, .slice Ar r.Secrets.length cr] := Blk.new' rfl
  have hbA1 : Below w1.heap.size w1 (w1.alloc (.cells #[.int .i64 r.First, .slice Ar r.Secrets.length cr] 34)) := by (repeat (first | (with_reducible exact Below.refl _ _) | (with_reducible assumption) | ((with_reducible refine Below.setCell ?_ ?_ _); rotate_left; focus (first | omega | (simp; done) | (simp; omega))) | ((with_reducible refine Below.alloc ?_ ?_ _); rotate_left; focus (first | omega | (simp; done) | (simp; omega))) | (with_reducible refine Below.drew ?_) | (with_reducible refine below_drewN ?_ _) | (refine Below.trans ?_ (Below.mono (by with_reducible assumption) (by (first | omega | (simp; done) | (simp; omega)))))))
  have hsrA := hsr.keep hbA1 hbA1.size
  have hprA := hpr.below hbA1 (Nat.le_refl _)
  have hszA : w1.heap.size + 1 = (w1.alloc (.cells #[.int .i64 r.First, .slice Ar r.Secrets.length cr] 34)).heap.size := by simp
  go_wp2_with fail
  generalize (w1.alloc (.cells #[.int .i64 r.First, .slice Ar r.Secrets.length cr] 34)) = w2 at *
  have hRd2 : KeyRingR.Rd w2 w2.heap.size [.int .i64 r.First, .slice Ar r.Secrets.length cr] r := of_rd_KeyRing hsrA
  obtain ⟨b3, hb3⟩ : ∃ b3, b3 = w1.heap.size := ⟨_, rfl⟩
  have hz1b : w.heap.size ≤ b3 := by omega
  rw [← hb3] at B3 hszA hpr hprA hbA1 ⊢
  have hrb := fun h0 => Reads.some hrr h0
  rw [← hb3] at hrb
  clear hb3 hz1 hb1 hsr hrr hbA1
  cases hs : sealOk r x xs.length
  · refine (spec_RingSeal_refuse _ r x Ap cp xs.length w2 hRd2 hszr (by omega) hs).mono ?_
    rintro e w3 ⟨rfl, hb23⟩
    go_wp2
    go_ret
    exact ⟨rfl, by have := hbA.trans (hb23.mono hbA.size); have := this.size; (repeat (first | (with_reducible exact Below.refl _ _) | (with_reducible assumption) | ((with_reducible refine Below.setCell ?_ ?_ _); rotate_left; focus (first | omega | (simp; done) | (simp; omega))) | ((with_reducible refine Below.alloc ?_ ?_ _); rotate_left; focus (first | omega | (simp; done) | (simp; omega))) | (with_reducible refine Below.drew ?_) | (with_reducible refine below_drewN ?_ _) | (refine Below.trans ?_ (Below.mono (by with_reducible assumption) (by (first | omega | (simp; done) | (simp; omega)))))))⟩
  obtain ⟨hok, hk, hl2⟩ := sealOk_parts hs
  obtain ⟨N, rfl, hN⟩ := keyOk_nat hk
  refine (spec_RingSeal _ r N Ap cp xs w2 hRd2 hszr (hprA.more (by omega)) hN hl2 hok).mono ?_
  rintro e w3 ⟨Aw, cw, rfl, how, hb23⟩
  have HML := Lib.hid (mask_len (lastK r) N xs)
  have HKeep := Lib.hid (fun hf => Keeps.start (r := r) hok hf)
  have HOpen := Lib.hid (fun (R : KeyRing) (i : Nat) (h : Keeps R (r.First + ((r.Secrets.length : Int) - 1)) (lastK r) i) => h.opens (xs := xs) hN hl2)
  have hbw3 := hbA.trans (hb23.mono hbA.size)
  have hz3 : b3 + 1 ≤ w3.heap.size := by have := hb23.size; omega
  have B3a := B3.keep hb23
  have HRS := Lib.hid (fun (D : Option Addr) (d : Nat) (w' : World) (hb : Below w2.heap.size w2 w') (h : Reads w' w'.heap.size D (xs.map byteV)) => impl_RingSeal [.int .i64 r.First, .slice Ar r.Secrets.length cr] r N D d xs w' (KeyRingR.rd_keep hRd2 hb hb.size) h hN hl2 hok)
  have HCp := Lib.hid (fun (w' : World) (hb : Below w2.heap.size w2 w') => laws_cpBytes Ap cp xs w' ((hprA.below hb (by omega)).more (by have := hb.size; omega)) (by omega))
  have hrp := hprA.below hb23 (by omega)
  obtain ⟨K, hK⟩ : ∃ K, lastK r = K := ⟨_, rfl⟩
  rw [hK] at how HML HKeep HOpen HRS ⊢
  obtain ⟨ver, hver⟩ : ∃ ver, r.First + ((r.Secrets.length : Int) - 1) = ver := ⟨_, rfl⟩
  rw [hver] at HKeep HOpen HRS ⊢
  obtain ⟨ys, hys⟩ : ∃ ys, maskB K N xs = ys := ⟨_, rfl⟩
  rw [hys] at how HML HRS HOpen ⊢
  obtain ⟨tg, htg⟩ : ∃ tg, tagL K N ys = tg := ⟨_, rfl⟩
  rw [htg] at HRS HOpen ⊢
  obtain ⟨n, hn⟩ : ∃ n, xs.length = n := ⟨_, rfl⟩
  rw [hn] at how HML HRS HCp hl2 hxl hs ⊢
  have Hn := Lib.hid hn
  clear hn htg hys hver hK
  have hbW : Below w2.heap.size w2 (w3.alloc (.cells #[.int .i64 ver, .int .i64 (N : Int), .slice Aw n cw, .int .i64 tg] 38)) := by (repeat (first | (with_reducible exact Below.refl _ _) | (with_reducible assumption) | ((with_reducible refine Below.setCell ?_ ?_ _); rotate_left; focus (first | omega | (simp; done) | (simp; omega))) | ((with_reducible refine Below.alloc ?_ ?_ _); rotate_left; focus (first | omega | (simp; done) | (simp; omega))) | (with_reducible refine Below.drew ?_) | (with_reducible refine below_drewN ?_ _) | (refine Below.trans ?_ (Below.mono (by with_reducible assumption) (by (first | omega | (simp; done) | (simp; omega)))))))
  have B6 : Blk (w3.alloc (.cells #[.int .i64 ver, .int .i64 (N : Int), .slice Aw n cw, .int .i64 tg] 38)) w3.heap.size 38 #[.int .i64 ver, .int .i64 (N : Int), .slice Aw n cw, .int .i64 tg] := Blk.new' rfl
  have hb34 : Below w3.heap.size w3 (w3.alloc (.cells #[.int .i64 ver, .int .i64 (N : Int), .slice Aw n cw, .int .i64 tg] 38)) := by (repeat (first | (with_reducible exact Below.refl _ _) | (with_reducible assumption) | ((with_reducible refine Below.setCell ?_ ?_ _); rotate_left; focus (first | omega | (simp; done) | (simp; omega))) | ((with_reducible refine Below.alloc ?_ ?_ _); rotate_left; focus (first | omega | (simp; done) | (simp; omega))) | (with_reducible refine Below.drew ?_) | (with_reducible refine below_drewN ?_ _) | (refine Below.trans ?_ (Below.mono (by with_reducible assumption) (by (first | omega | (simp; done) | (simp; omega)))))))
  replace B3a := B3a.keep hb34
  have hrp4 := hrp.below hb34 (by omega)
  have how4 := own_below how hb34
  have hbw4 := hbw3.trans (hb34.mono hbw3.size)
  have hz4 : w3.heap.size + 1 = (w3.alloc (.cells #[.int .i64 ver, .int .i64 (N : Int), .slice Aw n cw, .int .i64 tg] 38)).heap.size := by simp
  have hc3x := B3a.cell
  by_cases hf : 999000 < r.First
  · have hfd : decide ((999000 : Int) < r.First) = true := by simpa using hf
    go_wp2
    go_ret
    exact ⟨rfl, hbw4⟩
  have hfd : decide ((999000 : Int) < r.First) = false := by simpa using hf
  go_wp2_with fail
  generalize (w3.alloc (.cells #[.int .i64 ver, .int .i64 (N : Int), .slice Aw n cw, .int .i64 tg] 38)) = w4 at *
  obtain ⟨b6, hb6⟩ : ∃ b6, b6 = w3.heap.size := ⟨_, rfl⟩
  rw [← hb6] at B6 hz4 ⊢
  have hlt36 : b3 < b6 := by omega
  have hb24 := hbW
  clear hb6 hbW hb34 hb23
  have hkp := HKeep.out (by omega)
  replace HKeep := Lib.hid hkp
  clear hkp
  have hz24 := hb24.size
  go_cut [8, 9] (fun s8 s9 wx => ∃ (X : Nat) (A8 : Option Addr) (d8 : Nat), s8 = .pointer (some ⟨X, 0, none⟩) ∧ s9 = .bool true ∧ Blk wx X 38 #[.int .i64 ver, .int .i64 (N : Int), .slice A8 n d8, .int .i64 tg] ∧ Blk wx b3 34 #[.int .i64 r.First, .slice Ar r.Secrets.length cr] ∧ Blk wx b6 38 #[.int .i64 ver, .int .i64 (N : Int), .slice Aw n cw, .int .i64 tg] ∧ wx.ownsRow w4.heap.size 5 1 (.slice A8 n d8) n (ys.map byteV) ∧ w4.heap.size ≤ X ∧ Below w4.heap.size w4 wx)
  case first =>
    go_region_held3 (fun w' => w'.cell? ⟨b3, 0, none⟩ = some (.int .i64 r.First) ∧ w'.cell? ⟨b3, 1, none⟩ = some (.slice Ar r.Secrets.length cr))
      (first | exact ⟨Blk.cell (t := 34) (cs := #[.int .i64 r.First, .slice Ar r.Secrets.length cr]) (by (repeat (first | (with_reducible assumption) | ((with_reducible refine Blk.new' ?_); focus (simp; done)) | (with_reducible refine Blk.alloc ?_ _) | (with_reducible refine Blk.drew ?_) | (with_reducible refine Blk.drewN ?_ _) | ((with_reducible refine Blk.far ?_ ?_ _); rotate_left; focus (first | omega | (simp; done) | (simp; omega))) | (refine Blk.keep ?_ (by with_reducible assumption)) | (refine Blk.below ?_ (by with_reducible assumption) (by (first | omega | (simp; done) | (simp; omega))))))) 0, Blk.cell (t := 34) (cs := #[.int .i64 r.First, .slice Ar r.Secrets.length cr]) (by (repeat (first | (with_reducible assumption) | ((with_reducible refine Blk.new' ?_); focus (simp; done)) | (with_reducible refine Blk.alloc ?_ _) | (with_reducible refine Blk.drew ?_) | (with_reducible refine Blk.drewN ?_ _) | ((with_reducible refine Blk.far ?_ ?_ _); rotate_left; focus (first | omega | (simp; done) | (simp; omega))) | (refine Blk.keep ?_ (by with_reducible assumption)) | (refine Blk.below ?_ (by with_reducible assumption) (by (first | omega | (simp; done) | (simp; omega))))))) 1⟩)
      (first
      | (go_at_call 26; ((with_reducible refine (HCp.out _ ?_).mono ?_); (focus (refine hb24.trans (Below.mono ?_ hz24); (repeat (first | (with_reducible exact Below.refl _ _) | (with_reducible assumption) | ((with_reducible refine Below.setCell ?_ ?_ _); rotate_left; focus (first | omega | (simp; done) | (simp; omega))) | ((with_reducible refine Below.alloc ?_ ?_ _); rotate_left; focus (first | omega | (simp; done) | (simp; omega))) | (with_reducible refine Below.drew ?_) | (with_reducible refine below_drewN ?_ _) | (refine Below.trans ?_ (Below.mono (by with_reducible assumption) (by (first | omega | (simp; done) | (simp; omega)))))))))); rintro e w5 ⟨D, d, rfl, ho5, hb5⟩; (have hz5 := hb5.size; try simp at hz5); have hoo5 : w5.ownsRow w4.heap.size 5 1 (.slice D n d) n (xs.map byteV) := (own_base ho5 (by first | omega | (simp; done) | (simp; omega))); (try ((refine (fun BN1 : Blk w5 (w4.heap.size) 38 #[.int .i64 0, .int .i64 0, .slice none 0 0, .int .i64 0] => ?_ : Blk w5 (w4.heap.size) 38 #[.int .i64 0, .int .i64 0, .slice none 0 0, .int .i64 0] → _) ?_); (rotate_left; focus ((repeat (first | (with_reducible assumption) | ((with_reducible refine Blk.new' ?_); focus (simp; done)) | (with_reducible refine Blk.alloc ?_ _) | (with_reducible refine Blk.drew ?_) | (with_reducible refine Blk.drewN ?_ _) | ((with_reducible refine Blk.far ?_ ?_ _); rotate_left; focus (first | omega | (simp; done) | (simp; omega))) | (refine Blk.keep ?_ (by with_reducible assumption)) | (refine Blk.below ?_ (by with_reducible assumption) (by (first | omega | (simp; done) | (simp; omega)))))); done)); have hcN1 := BN1.cell; have hfN1 := BN1.frozen; have hlN1 := BN1.lt)))
      | (go_at_call 25; ((with_reducible refine (HRS.out D d _ ?_ ?_).mono ?_); (focus (refine hb24.trans (Below.mono ?_ hz24); (repeat (first | (with_reducible exact Below.refl _ _) | (with_reducible assumption) | ((with_reducible refine Below.setCell ?_ ?_ _); rotate_left; focus (first | omega | (simp; done) | (simp; omega))) | ((with_reducible refine Below.alloc ?_ ?_ _); rotate_left; focus (first | omega | (simp; done) | (simp; omega))) | (with_reducible refine Below.drew ?_) | (with_reducible refine below_drewN ?_ _) | (refine Below.trans ?_ (Below.mono (by with_reducible assumption) (by (first | omega | (simp; done) | (simp; omega))))))))); (focus (refine Reads.of_own (base := w4.heap.size) (e := 5) (size := 1) (n := n) (c := d) ?_; (repeat (first | (with_reducible exact hoo5) | ((with_reducible refine own_setCell ?_ ?_ _); rotate_left; focus (first | omega | (simp; done) | (simp; omega))) | (with_reducible refine World.ownsRow.alloc ?_ _) | (with_reducible refine own_drew ?_) | (with_reducible refine own_drewN ?_ _) | (refine own_below ?_ (by with_reducible assumption))))))); rintro e w6 ⟨A8, d8, rfl, ho8, hb6⟩; (have hz6 := hb6.size; try simp at hz6); (try ((refine (fun BN2 : Blk w6 (w4.heap.size) 38 #[.int .i64 0, .int .i64 0, .slice none 0 0, .int .i64 0] => ?_ : Blk w6 (w4.heap.size) 38 #[.int .i64 0, .int .i64 0, .slice none 0 0, .int .i64 0] → _) ?_); (rotate_left; focus ((repeat (first | (with_reducible assumption) | ((with_reducible refine Blk.new' ?_); focus (simp; done)) | (with_reducible refine Blk.alloc ?_ _) | (with_reducible refine Blk.drew ?_) | (with_reducible refine Blk.drewN ?_ _) | ((with_reducible refine Blk.far ?_ ?_ _); rotate_left; focus (first | omega | (simp; done) | (simp; omega))) | (refine Blk.keep ?_ (by with_reducible assumption)) | (refine Blk.below ?_ (by with_reducible assumption) (by (first | omega | (simp; done) | (simp; omega)))))); done)); have hcN2 := BN2.cell; have hfN2 := BN2.frozen; have hlN2 := BN2.lt)); (try ((refine (fun BN3 : Blk w6 (w5.heap.size) 38 #[.int .i64 0, .int .i64 0, .slice none 0 0, .int .i64 0] => ?_ : Blk w6 (w5.heap.size) 38 #[.int .i64 0, .int .i64 0, .slice none 0 0, .int .i64 0] → _) ?_); (rotate_left; focus ((repeat (first | (with_reducible assumption) | ((with_reducible refine Blk.new' ?_); focus (simp; done)) | (with_reducible refine Blk.alloc ?_ _) | (with_reducible refine Blk.drew ?_) | (with_reducible refine Blk.drewN ?_ _) | ((with_reducible refine Blk.far ?_ ?_ _); rotate_left; focus (first | omega | (simp; done) | (simp; omega))) | (refine Blk.keep ?_ (by with_reducible assumption)) | (refine Blk.below ?_ (by with_reducible assumption) (by (first | omega | (simp; done) | (simp; omega)))))); done)); have hcN3 := BN3.cell; have hfN3 := BN3.frozen; have hlN3 := BN3.lt))))
    · have B8 : Blk (World.alloc w6 (.cells #[.int .i64 ver, .int .i64 (N : Int), .slice A8 n d8, .int .i64 tg] 38)) (w6.heap.size) 38 #[.int .i64 ver, .int .i64 (N : Int), .slice A8 n d8, .int .i64 tg] := Blk.new' rfl
      have B3' : Blk (World.alloc w6 (.cells #[.int .i64 ver, .int .i64 (N : Int), .slice A8 n d8, .int .i64 tg] 38)) b3 34 #[.int .i64 r.First, .slice Ar r.Secrets.length cr] := by (repeat (first | (with_reducible assumption) | ((with_reducible refine Blk.new' ?_); focus (simp; done)) | (with_reducible refine Blk.alloc ?_ _) | (with_reducible refine Blk.drew ?_) | (with_reducible refine Blk.drewN ?_ _) | ((with_reducible refine Blk.far ?_ ?_ _); rotate_left; focus (first | omega | (simp; done) | (simp; omega))) | (refine Blk.keep ?_ (by with_reducible assumption)) | (refine Blk.below ?_ (by with_reducible assumption) (by (first | omega | (simp; done) | (simp; omega))))))
      have B6' : Blk (World.alloc w6 (.cells #[.int .i64 ver, .int .i64 (N : Int), .slice A8 n d8, .int .i64 tg] 38)) b6 38 #[.int .i64 ver, .int .i64 (N : Int), .slice Aw n cw, .int .i64 tg] := by (repeat (first | (with_reducible assumption) | ((with_reducible refine Blk.new' ?_); focus (simp; done)) | (with_reducible refine Blk.alloc ?_ _) | (with_reducible refine Blk.drew ?_) | (with_reducible refine Blk.drewN ?_ _) | ((with_reducible refine Blk.far ?_ ?_ _); rotate_left; focus (first | omega | (simp; done) | (simp; omega))) | (refine Blk.keep ?_ (by with_reducible assumption)) | (refine Blk.below ?_ (by with_reducible assumption) (by (first | omega | (simp; done) | (simp; omega))))))
      have hbX : Below w4.heap.size w4 (World.alloc w6 (.cells #[.int .i64 ver, .int .i64 (N : Int), .slice A8 n d8, .int .i64 tg] 38)) := by (repeat (first | (with_reducible exact Below.refl _ _) | (with_reducible assumption) | ((with_reducible refine Below.setCell ?_ ?_ _); rotate_left; focus (first | omega | (simp; done) | (simp; omega))) | ((with_reducible refine Below.alloc ?_ ?_ _); rotate_left; focus (first | omega | (simp; done) | (simp; omega))) | (with_reducible refine Below.drew ?_) | (with_reducible refine below_drewN ?_ _) | (refine Below.trans ?_ (Below.mono (by with_reducible assumption) (by (first | omega | (simp; done) | (simp; omega)))))))
      have ho8' : (World.alloc w6 (.cells #[.int .i64 ver, .int .i64 (N : Int), .slice A8 n d8, .int .i64 tg] 38)).ownsRow w5.heap.size 5 1 (.slice A8 n d8) n (ys.map byteV) := by (repeat (first | (with_reducible exact ho8) | ((with_reducible refine own_setCell ?_ ?_ _); rotate_left; focus (first | omega | (simp; done) | (simp; omega))) | (with_reducible refine World.ownsRow.alloc ?_ _) | (with_reducible refine own_drew ?_) | (with_reducible refine own_drewN ?_ _) | (refine own_below ?_ (by with_reducible assumption))))
      go_wp2_with fail
      go_meet
      exact ⟨w6.heap.size, A8, d8, rfl, rfl, B8, B3', B6', own_base ho8' (by omega), by omega, hbX⟩
    · have B8 : Blk (World.setCell (World.setCell (World.setCell (World.setCell (w6) ⟨w5.heap.size, 0, none⟩ (.int .i64 ver)) ⟨w5.heap.size, 1, none⟩ (.int .i64 (N : Int))) ⟨w5.heap.size, 2, none⟩ (.slice A8 n d8)) ⟨w5.heap.size, 3, none⟩ (.int .i64 tg)) (w5.heap.size) 38 #[.int .i64 ver, .int .i64 (N : Int), .slice A8 n d8, .int .i64 tg] := ((((BN3.set_ 0 _).set_ 1 _).set_ 2 _).set_ 3 _)
      have B3' : Blk (World.setCell (World.setCell (World.setCell (World.setCell (w6) ⟨w5.heap.size, 0, none⟩ (.int .i64 ver)) ⟨w5.heap.size, 1, none⟩ (.int .i64 (N : Int))) ⟨w5.heap.size, 2, none⟩ (.slice A8 n d8)) ⟨w5.heap.size, 3, none⟩ (.int .i64 tg)) b3 34 #[.int .i64 r.First, .slice Ar r.Secrets.length cr] := by (repeat (first | (with_reducible assumption) | ((with_reducible refine Blk.new' ?_); focus (simp; done)) | (with_reducible refine Blk.alloc ?_ _) | (with_reducible refine Blk.drew ?_) | (with_reducible refine Blk.drewN ?_ _) | ((with_reducible refine Blk.far ?_ ?_ _); rotate_left; focus (first | omega | (simp; done) | (simp; omega))) | (refine Blk.keep ?_ (by with_reducible assumption)) | (refine Blk.below ?_ (by with_reducible assumption) (by (first | omega | (simp; done) | (simp; omega))))))
      have B6' : Blk (World.setCell (World.setCell (World.setCell (World.setCell (w6) ⟨w5.heap.size, 0, none⟩ (.int .i64 ver)) ⟨w5.heap.size, 1, none⟩ (.int .i64 (N : Int))) ⟨w5.heap.size, 2, none⟩ (.slice A8 n d8)) ⟨w5.heap.size, 3, none⟩ (.int .i64 tg)) b6 38 #[.int .i64 ver, .int .i64 (N : Int), .slice Aw n cw, .int .i64 tg] := by (repeat (first | (with_reducible assumption) | ((with_reducible refine Blk.new' ?_); focus (simp; done)) | (with_reducible refine Blk.alloc ?_ _) | (with_reducible refine Blk.drew ?_) | (with_reducible refine Blk.drewN ?_ _) | ((with_reducible refine Blk.far ?_ ?_ _); rotate_left; focus (first | omega | (simp; done) | (simp; omega))) | (refine Blk.keep ?_ (by with_reducible assumption)) | (refine Blk.below ?_ (by with_reducible assumption) (by (first | omega | (simp; done) | (simp; omega))))))
      have hbX : Below w4.heap.size w4 (World.setCell (World.setCell (World.setCell (World.setCell (w6) ⟨w5.heap.size, 0, none⟩ (.int .i64 ver)) ⟨w5.heap.size, 1, none⟩ (.int .i64 (N : Int))) ⟨w5.heap.size, 2, none⟩ (.slice A8 n d8)) ⟨w5.heap.size, 3, none⟩ (.int .i64 tg)) := by (repeat (first | (with_reducible exact Below.refl _ _) | (with_reducible assumption) | ((with_reducible refine Below.setCell ?_ ?_ _); rotate_left; focus (first | omega | (simp; done) | (simp; omega))) | ((with_reducible refine Below.alloc ?_ ?_ _); rotate_left; focus (first | omega | (simp; done) | (simp; omega))) | (with_reducible refine Below.drew ?_) | (with_reducible refine below_drewN ?_ _) | (refine Below.trans ?_ (Below.mono (by with_reducible assumption) (by (first | omega | (simp; done) | (simp; omega)))))))
      have ho8' : (World.setCell (World.setCell (World.setCell (World.setCell (w6) ⟨w5.heap.size, 0, none⟩ (.int .i64 ver)) ⟨w5.heap.size, 1, none⟩ (.int .i64 (N : Int))) ⟨w5.heap.size, 2, none⟩ (.slice A8 n d8)) ⟨w5.heap.size, 3, none⟩ (.int .i64 tg)).ownsRow (w5.heap.size + 1) 5 1 (.slice A8 n d8) n (ys.map byteV) := by have ho8b : w6.ownsRow (w5.heap.size + 1) 5 1 (.slice A8 n d8) n (ys.map byteV) := (by simpa using ho8); (repeat (first | (with_reducible exact ho8b) | ((with_reducible refine own_setCell ?_ ?_ _); rotate_left; focus (first | omega | (simp; done) | (simp; omega))) | (with_reducible refine World.ownsRow.alloc ?_ _) | (with_reducible refine own_drew ?_) | (with_reducible refine own_drewN ?_ _) | (refine own_below ?_ (by with_reducible assumption))))
      go_wp2_with fail
      go_meet
      exact ⟨w5.heap.size, A8, d8, rfl, rfl, B8, B3', B6', own_base ho8' (by omega), by omega, hbX⟩
    · have B8 : Blk (World.setCell (World.setCell (World.setCell (World.setCell (w6) ⟨w4.heap.size, 0, none⟩ (.int .i64 ver)) ⟨w4.heap.size, 1, none⟩ (.int .i64 (N : Int))) ⟨w4.heap.size, 2, none⟩ (.slice A8 n d8)) ⟨w4.heap.size, 3, none⟩ (.int .i64 tg)) (w4.heap.size) 38 #[.int .i64 ver, .int .i64 (N : Int), .slice A8 n d8, .int .i64 tg] := ((((BN2.set_ 0 _).set_ 1 _).set_ 2 _).set_ 3 _)
      have B3' : Blk (World.setCell (World.setCell (World.setCell (World.setCell (w6) ⟨w4.heap.size, 0, none⟩ (.int .i64 ver)) ⟨w4.heap.size, 1, none⟩ (.int .i64 (N : Int))) ⟨w4.heap.size, 2, none⟩ (.slice A8 n d8)) ⟨w4.heap.size, 3, none⟩ (.int .i64 tg)) b3 34 #[.int .i64 r.First, .slice Ar r.Secrets.length cr] := by (repeat (first | (with_reducible assumption) | ((with_reducible refine Blk.new' ?_); focus (simp; done)) | (with_reducible refine Blk.alloc ?_ _) | (with_reducible refine Blk.drew ?_) | (with_reducible refine Blk.drewN ?_ _) | ((with_reducible refine Blk.far ?_ ?_ _); rotate_left; focus (first | omega | (simp; done) | (simp; omega))) | (refine Blk.keep ?_ (by with_reducible assumption)) | (refine Blk.below ?_ (by with_reducible assumption) (by (first | omega | (simp; done) | (simp; omega))))))
      have B6' : Blk (World.setCell (World.setCell (World.setCell (World.setCell (w6) ⟨w4.heap.size, 0, none⟩ (.int .i64 ver)) ⟨w4.heap.size, 1, none⟩ (.int .i64 (N : Int))) ⟨w4.heap.size, 2, none⟩ (.slice A8 n d8)) ⟨w4.heap.size, 3, none⟩ (.int .i64 tg)) b6 38 #[.int .i64 ver, .int .i64 (N : Int), .slice Aw n cw, .int .i64 tg] := by (repeat (first | (with_reducible assumption) | ((with_reducible refine Blk.new' ?_); focus (simp; done)) | (with_reducible refine Blk.alloc ?_ _) | (with_reducible refine Blk.drew ?_) | (with_reducible refine Blk.drewN ?_ _) | ((with_reducible refine Blk.far ?_ ?_ _); rotate_left; focus (first | omega | (simp; done) | (simp; omega))) | (refine Blk.keep ?_ (by with_reducible assumption)) | (refine Blk.below ?_ (by with_reducible assumption) (by (first | omega | (simp; done) | (simp; omega))))))
      have hbX : Below w4.heap.size w4 (World.setCell (World.setCell (World.setCell (World.setCell (w6) ⟨w4.heap.size, 0, none⟩ (.int .i64 ver)) ⟨w4.heap.size, 1, none⟩ (.int .i64 (N : Int))) ⟨w4.heap.size, 2, none⟩ (.slice A8 n d8)) ⟨w4.heap.size, 3, none⟩ (.int .i64 tg)) := by (repeat (first | (with_reducible exact Below.refl _ _) | (with_reducible assumption) | ((with_reducible refine Below.setCell ?_ ?_ _); rotate_left; focus (first | omega | (simp; done) | (simp; omega))) | ((with_reducible refine Below.alloc ?_ ?_ _); rotate_left; focus (first | omega | (simp; done) | (simp; omega))) | (with_reducible refine Below.drew ?_) | (with_reducible refine below_drewN ?_ _) | (refine Below.trans ?_ (Below.mono (by with_reducible assumption) (by (first | omega | (simp; done) | (simp; omega)))))))
      have ho8' : (World.setCell (World.setCell (World.setCell (World.setCell (w6) ⟨w4.heap.size, 0, none⟩ (.int .i64 ver)) ⟨w4.heap.size, 1, none⟩ (.int .i64 (N : Int))) ⟨w4.heap.size, 2, none⟩ (.slice A8 n d8)) ⟨w4.heap.size, 3, none⟩ (.int .i64 tg)).ownsRow w5.heap.size 5 1 (.slice A8 n d8) n (ys.map byteV) := by (repeat (first | (with_reducible exact ho8) | ((with_reducible refine own_setCell ?_ ?_ _); rotate_left; focus (first | omega | (simp; done) | (simp; omega))) | (with_reducible refine World.ownsRow.alloc ?_ _) | (with_reducible refine own_drew ?_) | (with_reducible refine own_drewN ?_ _) | (refine own_below ?_ (by with_reducible assumption))))
      go_wp2_with fail
      go_meet
      exact ⟨w4.heap.size, A8, d8, rfl, rfl, B8, B3', B6', own_base ho8' (by omega), by omega, hbX⟩
  case rest =>
    obtain ⟨X8, A8, d8, rfl, rfl, B8, B3c, B6c, ho8, hX8, hb48⟩ := hcut
    obtain ⟨w8, hw8⟩ : ∃ w_, w_ = wc := ⟨_, rfl⟩
    subst hw8
    have hbw8 := hbw4.trans (hb48.mono hbw4.size)
    have hz8 := hb48.size
    have hrp8 := hrp4.below hb48 (by omega)
    have hs8r := (hsrA.keep hb24 hz24).keep hb48 hz8
    clear B3a hc3x hfd hs hRd2 HCp HRS hprA how how4 hrp
    have hc3 := B3c.cell; have hf3 := B3c.frozen
    have hc8 := B8.cell; have hc6 := B6c.cell
    have hvv : (ver != ver) = false := by simp
    obtain ⟨M, hM, hM2⟩ : ∃ M : Nat, Int.tmod (at_ 0) 12 = (M : Int) ∧ M ≤ 11 := ⟨(at_ 0 % 12).toNat, by rw [Int.tmod_eq_emod_of_nonneg hat.1]; omega, by omega⟩
    go_wp2_with fail
    go_loopw [10] (fun i wr => ∃ (k : Nat) (R : KeyRing) (AR : Option Addr) (cR : Nat), k ≤ M ∧ i = .int .i64 k ∧ Blk wr b3 34 #[.int .i64 R.First, .slice AR R.Secrets.length cR] ∧ SlRd intR wr wr.heap.size (.slice AR R.Secrets.length cR) R.Secrets ∧ (∀ b off, AR = some ⟨b, off, none⟩ → b < wr.heap.size → b ≠ b3) ∧ Hid (Keeps R ver K k) ∧ Out (fun q => q = b3) w8 wr) (fun i _ => M - (intOf i).toNat)
    case atStart => exact ⟨0, r, Ar, cr, Nat.zero_le _, rfl, B3c, hs8r, fun b off e _ => by have h0 := (ringOk_parts hok).2.2.1; obtain ⟨b', off', e', hlt'⟩ := hrb (by rw [List.length_map]; exact h0); rw [e] at e'; simp only [Option.some.injEq, Addr.mk.injEq] at e'; omega, HKeep, Out.refl _ _⟩
    case round =>
      obtain ⟨k, R, AR, cR, hk, rfl, R3, hsR, hAR, hkp, hO⟩ := hrel
      clear hc3 hf3
      have hzr := hO.size
      have hbr : Below w.heap.size w wr := hbw8.trans (hO.below (by omega) (fun q hq => by omega))
      have hc3 := R3.cell; have hf3 := R3.frozen
      have hl3 := R3.lt
      by_cases hlt : k < M
      · have hlt' : (k : Int) < (M : Int) := by omega
        have hab := HAtB.out (k + 1)
        have HAt1 := Lib.hid (fun (w' : World) (hb : Below w.heap.size w w') => HAt.out (k + 1) w' hb (by omega))
        rw [show ((k + 1 : Nat) : Int) = (k : Int) + 1 from rfl] at HAt1
        generalize at_ (k + 1) = a1 at *
        have hkey : keyOk (a1 * 1000 + (k : Int)) = true := withinB_iff.2 (by omega)
        obtain ⟨hokR, hfR, -, -⟩ := id hkp.out
        have HRot := Lib.hid (fun (w' : World) (hb : Below wr.heap.size wr w') => impl_RotateRing [.int .i64 R.First, .slice AR R.Secrets.length cR] R (a1 * 1000 + (k : Int)) w' (KeyRingR.rd_keep (of_rd_KeyRing hsR) hb hb.size) hokR hkey (by omega))
        have hkp2 := Lib.hid (hkp.out.rot (by omega) hkey)
        generalize rotR R (a1 * 1000 + (k : Int)) = R2 at *
        clear hkey hokR
        have hw1 : IntKind.i64.wrap ((k : Int) + 1) = (k : Int) + 1 := IntWalk.i64_in _ (by omega)
        have hw2 : IntKind.i64.wrap (a1 * 1000) = a1 * 1000 := IntWalk.i64_in _ (by omega)
        have hw3 : IntKind.i64.wrap (a1 * 1000 + (k : Int)) = a1 * 1000 + (k : Int) := IntWalk.i64_in _ (by omega)
        go_wp2_with (go_at_call 27; refine (HAt.out 0 _ hbr (by omega)).mono ?_; rintro e w' ⟨rfl, rfl⟩)
        go_cut [11, 12] (fun s11 s12 wx => ∃ (X : Nat) (A2 : Option Addr) (c2 : Nat), s11 = .pointer (some ⟨X, 0, none⟩) ∧ s12 = .bool true ∧ Blk wx X 34 #[.int .i64 R2.First, .slice A2 R2.Secrets.length c2] ∧ Blk wx b3 34 #[.int .i64 R.First, .slice AR R.Secrets.length cR] ∧ SlRd intR wx wx.heap.size (.slice A2 R2.Secrets.length c2) R2.Secrets ∧ (∀ b off, A2 = some ⟨b, off, none⟩ → b3 < b) ∧ wr.heap.size ≤ X ∧ Below wr.heap.size wr wx)
        case first =>
          go_region_held3 (fun w' => w'.cell? ⟨b3, 0, none⟩ = some (.int .i64 R.First) ∧ w'.cell? ⟨b3, 1, none⟩ = some (.slice AR R.Secrets.length cR))
            (first | exact ⟨Blk.cell (t := 34) (cs := #[.int .i64 R.First, .slice AR R.Secrets.length cR]) (by (repeat (first | (with_reducible assumption) | ((with_reducible refine Blk.new' ?_); focus (simp; done)) | (with_reducible refine Blk.alloc ?_ _) | (with_reducible refine Blk.drew ?_) | (with_reducible refine Blk.drewN ?_ _) | ((with_reducible refine Blk.far ?_ ?_ _); rotate_left; focus (first | omega | (simp; done) | (simp; omega))) | (refine Blk.keep ?_ (by with_reducible assumption)) | (refine Blk.below ?_ (by with_reducible assumption) (by (first | omega | (simp; done) | (simp; omega))))))) 0, Blk.cell (t := 34) (cs := #[.int .i64 R.First, .slice AR R.Secrets.length cR]) (by (repeat (first | (with_reducible assumption) | ((with_reducible refine Blk.new' ?_); focus (simp; done)) | (with_reducible refine Blk.alloc ?_ _) | (with_reducible refine Blk.drew ?_) | (with_reducible refine Blk.drewN ?_ _) | ((with_reducible refine Blk.far ?_ ?_ _); rotate_left; focus (first | omega | (simp; done) | (simp; omega))) | (refine Blk.keep ?_ (by with_reducible assumption)) | (refine Blk.below ?_ (by with_reducible assumption) (by (first | omega | (simp; done) | (simp; omega))))))) 1⟩)
            (first
            | (go_at_call 27; ((with_reducible refine (HAt1.out _ ?_).mono ?_); (focus (refine hbr.trans (Below.mono ?_ hbr.size); (repeat (first | (with_reducible exact Below.refl _ _) | (with_reducible assumption) | ((with_reducible refine Below.setCell ?_ ?_ _); rotate_left; focus (first | omega | (simp; done) | (simp; omega))) | ((with_reducible refine Below.alloc ?_ ?_ _); rotate_left; focus (first | omega | (simp; done) | (simp; omega))) | (with_reducible refine Below.drew ?_) | (with_reducible refine below_drewN ?_ _) | (refine Below.trans ?_ (Below.mono (by with_reducible assumption) (by (first | omega | (simp; done) | (simp; omega)))))))))); rintro e w' ⟨rfl, rfl⟩)
            | (go_at_call 28; ((with_reducible refine (HRot.out _ ?_).mono ?_); (focus (repeat (first | (with_reducible exact Below.refl _ _) | (with_reducible assumption) | ((with_reducible refine Below.setCell ?_ ?_ _); rotate_left; focus (first | omega | (simp; done) | (simp; omega))) | ((with_reducible refine Below.alloc ?_ ?_ _); rotate_left; focus (first | omega | (simp; done) | (simp; omega))) | (with_reducible refine Below.drew ?_) | (with_reducible refine below_drewN ?_ _) | (refine Below.trans ?_ (Below.mono (by with_reducible assumption) (by (first | omega | (simp; done) | (simp; omega))))))))); rintro e w6 ⟨v2, rfl, hs6, hnew, hb6⟩; obtain ⟨A2, c2, rfl⟩ := hs6.form; (have hz6 := hb6.size; try simp at hz6); (try ((refine (fun BN11 : Blk w6 (wr.heap.size) 34 #[.int .i64 0, .slice none 0 0] => ?_ : Blk w6 (wr.heap.size) 34 #[.int .i64 0, .slice none 0 0] → _) ?_); (rotate_left; focus ((repeat (first | (with_reducible assumption) | ((with_reducible refine Blk.new' ?_); focus (simp; done)) | (with_reducible refine Blk.alloc ?_ _) | (with_reducible refine Blk.drew ?_) | (with_reducible refine Blk.drewN ?_ _) | ((with_reducible refine Blk.far ?_ ?_ _); rotate_left; focus (first | omega | (simp; done) | (simp; omega))) | (refine Blk.keep ?_ (by with_reducible assumption)) | (refine Blk.below ?_ (by with_reducible assumption) (by (first | omega | (simp; done) | (simp; omega)))))); done)); have hcN11 := BN11.cell; have hfN11 := BN11.frozen; have hlN11 := BN11.lt))))
          · have B11 : Blk (World.alloc w6 (.cells #[.int .i64 R2.First, .slice A2 R2.Secrets.length c2] 34)) (w6.heap.size) 34 #[.int .i64 R2.First, .slice A2 R2.Secrets.length c2] := Blk.new' rfl
            have B3' : Blk (World.alloc w6 (.cells #[.int .i64 R2.First, .slice A2 R2.Secrets.length c2] 34)) b3 34 #[.int .i64 R.First, .slice AR R.Secrets.length cR] := by (repeat (first | (with_reducible assumption) | ((with_reducible refine Blk.new' ?_); focus (simp; done)) | (with_reducible refine Blk.alloc ?_ _) | (with_reducible refine Blk.drew ?_) | (with_reducible refine Blk.drewN ?_ _) | ((with_reducible refine Blk.far ?_ ?_ _); rotate_left; focus (first | omega | (simp; done) | (simp; omega))) | (refine Blk.keep ?_ (by with_reducible assumption)) | (refine Blk.below ?_ (by with_reducible assumption) (by (first | omega | (simp; done) | (simp; omega))))))
            have hbX : Below wr.heap.size wr (World.alloc w6 (.cells #[.int .i64 R2.First, .slice A2 R2.Secrets.length c2] 34)) := by (repeat (first | (with_reducible exact Below.refl _ _) | (with_reducible assumption) | ((with_reducible refine Below.setCell ?_ ?_ _); rotate_left; focus (first | omega | (simp; done) | (simp; omega))) | ((with_reducible refine Below.alloc ?_ ?_ _); rotate_left; focus (first | omega | (simp; done) | (simp; omega))) | (with_reducible refine Below.drew ?_) | (with_reducible refine below_drewN ?_ _) | (refine Below.trans ?_ (Below.mono (by with_reducible assumption) (by (first | omega | (simp; done) | (simp; omega)))))))
            have hsX : SlRd intR (World.alloc w6 (.cells #[.int .i64 R2.First, .slice A2 R2.Secrets.length c2] 34)) (World.alloc w6 (.cells #[.int .i64 R2.First, .slice A2 R2.Secrets.length c2] 34)).heap.size (.slice A2 R2.Secrets.length c2) R2.Secrets := (SlRd.keep hs6 ((Below.refl _ _).alloc (Nat.le_refl _) _) (by simp))
            go_wp2_with fail
            go_meet
            exact ⟨w6.heap.size, A2, c2, rfl, rfl, B11, B3', hsX, fun b off e => by have h := hnew b off _ _ (by rw [e]); simp at h; omega, by omega, hbX⟩
          · have B11 : Blk (World.setCell (World.setCell (w6) ⟨wr.heap.size, 0, none⟩ (.int .i64 R2.First)) ⟨wr.heap.size, 1, none⟩ (.slice A2 R2.Secrets.length c2)) (wr.heap.size) 34 #[.int .i64 R2.First, .slice A2 R2.Secrets.length c2] := ((BN11.set_ 0 _).set_ 1 _)
            have B3' : Blk (World.setCell (World.setCell (w6) ⟨wr.heap.size, 0, none⟩ (.int .i64 R2.First)) ⟨wr.heap.size, 1, none⟩ (.slice A2 R2.Secrets.length c2)) b3 34 #[.int .i64 R.First, .slice AR R.Secrets.length cR] := by (repeat (first | (with_reducible assumption) | ((with_reducible refine Blk.new' ?_); focus (simp; done)) | (with_reducible refine Blk.alloc ?_ _) | (with_reducible refine Blk.drew ?_) | (with_reducible refine Blk.drewN ?_ _) | ((with_reducible refine Blk.far ?_ ?_ _); rotate_left; focus (first | omega | (simp; done) | (simp; omega))) | (refine Blk.keep ?_ (by with_reducible assumption)) | (refine Blk.below ?_ (by with_reducible assumption) (by (first | omega | (simp; done) | (simp; omega))))))
            have hbX : Below wr.heap.size wr (World.setCell (World.setCell (w6) ⟨wr.heap.size, 0, none⟩ (.int .i64 R2.First)) ⟨wr.heap.size, 1, none⟩ (.slice A2 R2.Secrets.length c2)) := by (repeat (first | (with_reducible exact Below.refl _ _) | (with_reducible assumption) | ((with_reducible refine Below.setCell ?_ ?_ _); rotate_left; focus (first | omega | (simp; done) | (simp; omega))) | ((with_reducible refine Below.alloc ?_ ?_ _); rotate_left; focus (first | omega | (simp; done) | (simp; omega))) | (with_reducible refine Below.drew ?_) | (with_reducible refine below_drewN ?_ _) | (refine Below.trans ?_ (Below.mono (by with_reducible assumption) (by (first | omega | (simp; done) | (simp; omega)))))))
            have hsX : SlRd intR (World.setCell (World.setCell (w6) ⟨wr.heap.size, 0, none⟩ (.int .i64 R2.First)) ⟨wr.heap.size, 1, none⟩ (.slice A2 R2.Secrets.length c2)) (World.setCell (World.setCell (w6) ⟨wr.heap.size, 0, none⟩ (.int .i64 R2.First)) ⟨wr.heap.size, 1, none⟩ (.slice A2 R2.Secrets.length c2)).heap.size (.slice A2 R2.Secrets.length c2) R2.Secrets := slrd_out (S := fun q => q = wr.heap.size) hs6 (Out.trans (out_set _ _ _ _) (out_set _ _ _ _)) (fun b off e hb hq => by have h := hnew b off _ _ (by rw [e]); simp at h; omega)
            go_wp2_with fail
            go_meet
            exact ⟨wr.heap.size, A2, c2, rfl, rfl, B11, B3', hsX, fun b off e => by have h := hnew b off _ _ (by rw [e]); simp at h; omega, by omega, hbX⟩
          · have B11 : Blk (World.setCell (World.setCell (w6) ⟨wr.heap.size, 0, none⟩ (.int .i64 R2.First)) ⟨wr.heap.size, 1, none⟩ (.slice A2 R2.Secrets.length c2)) (wr.heap.size) 34 #[.int .i64 R2.First, .slice A2 R2.Secrets.length c2] := ((BN11.set_ 0 _).set_ 1 _)
            have B3' : Blk (World.setCell (World.setCell (w6) ⟨wr.heap.size, 0, none⟩ (.int .i64 R2.First)) ⟨wr.heap.size, 1, none⟩ (.slice A2 R2.Secrets.length c2)) b3 34 #[.int .i64 R.First, .slice AR R.Secrets.length cR] := by (repeat (first | (with_reducible assumption) | ((with_reducible refine Blk.new' ?_); focus (simp; done)) | (with_reducible refine Blk.alloc ?_ _) | (with_reducible refine Blk.drew ?_) | (with_reducible refine Blk.drewN ?_ _) | ((with_reducible refine Blk.far ?_ ?_ _); rotate_left; focus (first | omega | (simp; done) | (simp; omega))) | (refine Blk.keep ?_ (by with_reducible assumption)) | (refine Blk.below ?_ (by with_reducible assumption) (by (first | omega | (simp; done) | (simp; omega))))))
            have hbX : Below wr.heap.size wr (World.setCell (World.setCell (w6) ⟨wr.heap.size, 0, none⟩ (.int .i64 R2.First)) ⟨wr.heap.size, 1, none⟩ (.slice A2 R2.Secrets.length c2)) := by (repeat (first | (with_reducible exact Below.refl _ _) | (with_reducible assumption) | ((with_reducible refine Below.setCell ?_ ?_ _); rotate_left; focus (first | omega | (simp; done) | (simp; omega))) | ((with_reducible refine Below.alloc ?_ ?_ _); rotate_left; focus (first | omega | (simp; done) | (simp; omega))) | (with_reducible refine Below.drew ?_) | (with_reducible refine below_drewN ?_ _) | (refine Below.trans ?_ (Below.mono (by with_reducible assumption) (by (first | omega | (simp; done) | (simp; omega)))))))
            have hsX : SlRd intR (World.setCell (World.setCell (w6) ⟨wr.heap.size, 0, none⟩ (.int .i64 R2.First)) ⟨wr.heap.size, 1, none⟩ (.slice A2 R2.Secrets.length c2)) (World.setCell (World.setCell (w6) ⟨wr.heap.size, 0, none⟩ (.int .i64 R2.First)) ⟨wr.heap.size, 1, none⟩ (.slice A2 R2.Secrets.length c2)).heap.size (.slice A2 R2.Secrets.length c2) R2.Secrets := slrd_out (S := fun q => q = wr.heap.size) hs6 (Out.trans (out_set _ _ _ _) (out_set _ _ _ _)) (fun b off e hb hq => by have h := hnew b off _ _ (by rw [e]); simp at h; omega)
            go_wp2_with fail
            go_meet
            exact ⟨wr.heap.size, A2, c2, rfl, rfl, B11, B3', hsX, fun b off e => by have h := hnew b off _ _ (by rw [e]); simp at h; omega, by omega, hbX⟩
        case rest =>
          obtain ⟨X11, A2, c2, rfl, rfl, B11, B3r, hs2, hnew, hX11, hb11⟩ := hcut
          obtain ⟨w9, hw9⟩ : ∃ w_, w_ = wc := ⟨_, rfl⟩
          subst hw9
          clear hc3 hf3
          have hc3 := B3r.cell; have hf3 := B3r.frozen; have hc11 := B11.cell
          have hlr := B3r.lt
          go_wp2_with fail
          go_roundw
          case rel =>
            have hO9 : Out (fun q => q = b3) w8 w9 := hO.trans (Out.of_below hb11)
            have hos := (out_set w9 b3 0 (.int .i64 R2.First)).trans (out_set _ b3 1 (.slice A2 R2.Secrets.length c2))
            refine ⟨k + 1, R2, A2, c2, by omega, by go_num, ?_, ?_, ?_, hkp2, hO9.trans hos⟩
            · have hB := (B3r.set_ 0 (.int .i64 R2.First)).set_ 1 (.slice A2 R2.Secrets.length c2)
              simpa using hB
            · exact slrd_out hs2 hos (fun b off e hb hq => by have := hnew b off e; omega)
            · intro b off e hb
              have := hnew b off e
              omega
          case measure => simp [intOf]; omega
      · obtain rfl : k = M := by omega
        have hkpo := hkp.out
        obtain ⟨hokR, hfR, -, -⟩ := id hkpo
        obtain ⟨q1, q2, q3, q4, -⟩ := ringOk_parts hokR
        obtain ⟨hop1, hop2⟩ := HOpen.out R k hkpo
        have B8r := B8.out hO (by omega)
        have hc8r := B8r.cell
        have hor := own_out ho8 hO (fun q hq he => by have := (ho8.lt q hq).1; omega)
        have hrpr := hrp8.out hO (by omega) (fun b off e hb => by omega)
        have hC : CipherR.Rd wr wr.heap.size [.int .i64 ver, .int .i64 (N : Int), .slice A8 n d8, .int .i64 tg] ⟨ver, N, ys, tg⟩ := CipherR.own_rd (own_Cipher_row HML.out hor) (fun q hq => hq.2)
        have hR : KeyRingR.Rd wr wr.heap.size [.int .i64 R.First, .slice AR R.Secrets.length cR] R := of_rd_KeyRing hsR
        have hszR : KeyRingR.sz R ≤ 1048576 := by rw [sz_KeyRing, sz_IntS]; omega
        have hszC : CipherR.sz ⟨ver, N, ys, tg⟩ ≤ 1048576 := by rw [sz_Cipher, sz_ByteS]; simp only [HML.out]; omega
        have HO1 := Lib.hid (impl_RingOpen _ R _ ⟨ver, N, ys, tg⟩ wr hR hC hszR hszC)
        rw [hop1, hop2] at HO1
        have HW1 := Lib.hid (fun (w' : World) (hb : Below wr.heap.size wr w') => impl_Rewrap _ R N _ ⟨ver, N, ys, tg⟩ w' (KeyRingR.rd_keep hR hb hb.size) (CipherR.rd_keep hC hb hb.size) hszR hszC)
        have hrok := rewOk_ok (keyOk_of hN) hop1
        have hrc := rewC_ok hrok
        rw [hop2] at hrc
        rw [hrok, hrc] at HW1
        obtain ⟨kk, Kl, hkk, -, -, -⟩ := last_key hokR
        obtain ⟨hok2, hop3, hop4⟩ := open_small (xs := xs) hokR hkk (by omega) hN (by rw [Hn.out]; exact hl2)
        have HT := Lib.hid (fun (w' : World) (hb : Below wr.heap.size wr w') => impl_TrimRing _ R kk w' (KeyRingR.rd_keep hR hb hb.size) hokR (by omega) (by omega))
        have HML2 := Lib.hid (mask_len (lastK R) N xs)
        have hv1 : R.First + ((R.Secrets.length : Int) - 1) = R.First + kk := by omega
        rw [hv1] at HW1
        clear hv1 hrc hrok
        generalize tagL (lastK R) N (maskB (lastK R) N xs) = tg2 at *
        generalize maskB (lastK R) N xs = zs at *
        have hsm : (R.Secrets.drop kk).length = 1 := by rw [List.length_drop]; omega
        generalize R.Secrets.drop kk = sm at *
        have hv2 : R.First + (R.Secrets.length : Int) - 1 = R.First + kk := by omega
        have Hkk := Lib.hid hkk
        obtain ⟨s0, rfl⟩ := List.length_eq_one_iff.1 hsm
        have hok4 := Lib.hid (And.intro hok2 (And.intro hop3 hop4))
        clear hkk hsm hok2 hop3 hop4 hop1 hop2 HOpen HKeep hkp hkpo
        have hw1 : IntKind.i64.wrap (R.First + (R.Secrets.length : Int)) = R.First + (R.Secrets.length : Int) := IntWalk.i64_in _ (by omega)
        have hw2 : IntKind.i64.wrap (R.First + (kk : Int)) = R.First + (kk : Int) := IntWalk.i64_in _ (by omega)
        go_wp2_with fail
        refine (HAt.out 0 _ hbr (by omega)).mono ?_
        rintro e w' ⟨rfl, rfl⟩
        go_wp2_with fail
        refine HO1.out.mono ?_
        rintro e wB ⟨vB, rfl, hoB, hbB⟩
        obtain ⟨AB, cB, rfl⟩ := hoB.form
        have hrB := (rd_ByteS (hoB.rd_in (fun g h => h) (Nat.le_refl _))).2.1
        have hzB := hbB.size
        rw [Hn.out]
        have R3B := R3.keep hbB; have B8B := B8r.keep hbB
        have hpB := hrpr.below hbB (by omega)
        clear hc3 hf3 hc8r
        have hc3 := R3B.cell; have hc8 := B8B.cell
        go_wp2_with fail
        refine (laws_sameBytes AB Ap cB cp n xs wB hrB (hpB.more (by omega)) Hn.out (by omega)).mono ?_
        rintro e wS ⟨rfl, hbS⟩
        have hbrS := hbB.trans (hbS.mono hzB)
        have hzS := hbrS.size
        have R3S := R3B.keep hbS; have B8S := B8B.keep hbS
        clear hc3 hc8
        have hc3 := R3S.cell; have hc8 := B8S.cell
        go_wp2_with fail
        refine (HW1.out wS hbrS).mono ?_
        rintro e wW ⟨cs', rfl, hoW, hbW⟩
        have hx := own_Cipher hoW
        dsimp only at hx
        obtain ⟨v15, S15, rfl, hs15, hS15⟩ := hx
        obtain ⟨A15, c15, rfl⟩ := hs15.form
        have hsr15 := hs15.rd_in hS15 (Nat.le_refl _)
        rw [HML2.out, Hn.out]
        rw [HML2.out, Hn.out] at hsr15
        have hbrW := hbrS.trans (hbW.mono hzS)
        have hzW := hbrW.size
        have B15 : Blk (wW.alloc (.cells #[.int .i64 (R.First + (kk : Int)), .int .i64 (N : Int), .slice A15 n c15, .int .i64 tg2] 38)) wW.heap.size 38 #[.int .i64 (R.First + (kk : Int)), .int .i64 (N : Int), .slice A15 n c15, .int .i64 tg2] := Blk.new' rfl
        have hbWA : Below wW.heap.size wW (wW.alloc (.cells #[.int .i64 (R.First + (kk : Int)), .int .i64 (N : Int), .slice A15 n c15, .int .i64 tg2] 38)) := by (repeat (first | (with_reducible exact Below.refl _ _) | (with_reducible assumption) | ((with_reducible refine Below.setCell ?_ ?_ _); rotate_left; focus (first | omega | (simp; done) | (simp; omega))) | ((with_reducible refine Below.alloc ?_ ?_ _); rotate_left; focus (first | omega | (simp; done) | (simp; omega))) | (with_reducible refine Below.drew ?_) | (with_reducible refine below_drewN ?_ _) | (refine Below.trans ?_ (Below.mono (by with_reducible assumption) (by (first | omega | (simp; done) | (simp; omega)))))))
        have R3W := (R3S.keep hbW).keep hbWA
        have hsA15 := hsr15.keep hbWA hbWA.size
        have hbrA := hbrW.trans (hbWA.mono hzW)
        have hc3x := (R3S.keep hbW).cell
        have hszA : wW.heap.size + 1 = (wW.alloc (.cells #[.int .i64 (R.First + (kk : Int)), .int .i64 (N : Int), .slice A15 n c15, .int .i64 tg2] 38)).heap.size := by simp
        have hl3W := (R3S.keep hbW).lt
        have hf3W := (R3S.keep hbW).frozen
        clear hc3 hc8
        have hc3 := R3W.cell
        have hc15 := B15.cell
        go_wp2_with fail
        generalize (wW.alloc (.cells #[.int .i64 (R.First + (kk : Int)), .int .i64 (N : Int), .slice A15 n c15, .int .i64 tg2] 38)) = wX at *
        obtain ⟨b15, hb15⟩ : ∃ b15, b15 = wW.heap.size := ⟨_, rfl⟩
        rw [← hb15] at B15 hc15 hszA ⊢
        clear hc3x hl3W hf3W hbWA hb15
        refine (HT.out wX hbrA).mono ?_
        rintro e wT ⟨vT, rfl, hsT, hbT⟩
        obtain ⟨AT, cT, rfl⟩ := hsT.form
        have hzX := hbrA.size
        have hbrT := hbrA.trans (hbT.mono hzX)
        have hzT := hbT.size
        have hpT := (hrpr.below hbrT (by omega)).more (by have := hbrT.size; omega : b3 ≤ wT.heap.size)
        have R3T := R3W.keep hbT; have B15T := B15.keep hbT
        have hsT15 := hsA15.keep hbT hzT
        have hbTA : Below wT.heap.size wT (wT.alloc (.cells #[.int .i64 (R.First + (kk : Int)), .slice AT [s0].length cT] 34)) := by (repeat (first | (with_reducible exact Below.refl _ _) | (with_reducible assumption) | ((with_reducible refine Below.setCell ?_ ?_ _); rotate_left; focus (first | omega | (simp; done) | (simp; omega))) | ((with_reducible refine Below.alloc ?_ ?_ _); rotate_left; focus (first | omega | (simp; done) | (simp; omega))) | (with_reducible refine Below.drew ?_) | (with_reducible refine below_drewN ?_ _) | (refine Below.trans ?_ (Below.mono (by with_reducible assumption) (by (first | omega | (simp; done) | (simp; omega)))))))
        have B18 : Blk (wT.alloc (.cells #[.int .i64 (R.First + (kk : Int)), .slice AT [s0].length cT] 34)) wT.heap.size 34 #[.int .i64 (R.First + (kk : Int)), .slice AT [s0].length cT] := Blk.new' rfl
        have hszT : wT.heap.size + 1 = (wT.alloc (.cells #[.int .i64 (R.First + (kk : Int)), .slice AT [s0].length cT] 34)).heap.size := by simp
        have hsA18 := hsT.keep hbTA hbTA.size
        have hsA15b := hsT15.keep hbTA hbTA.size
        have hpA := (hpT.below hbTA (by omega)).more hbTA.size
        have B15A := B15T.keep hbTA
        have hbrZ := hbrT.trans (hbTA.mono hbrT.size)
        have hc15x := B15T.cell; have hl15 := B15T.lt; have hf15 := B15T.frozen
        clear hc3 hc15
        have hc15 := B15A.cell
        have hc18 := B18.cell
        simp only [List.length_singleton] at B18 hsA18 hsA15b hpA B15A hbrZ hc15 hc18 hszT hbTA ⊢
        have hneq : ((R.First + (kk : Int)) != (R.First + (kk : Int))) = false := by simp
        go_wp2_with fail
        generalize (wT.alloc (.cells #[.int .i64 (R.First + (kk : Int)), .slice AT 1 cT] 34)) = wZ at *
        obtain ⟨hok2, hop3, hop4⟩ := hok4.out
        have hO2 := impl_RingOpen [.int .i64 (R.First + (kk : Int)), .slice AT 1 cT] ⟨R.First + kk, [s0]⟩ [.int .i64 (R.First + (kk : Int)), .int .i64 (N : Int), .slice A15 n c15, .int .i64 tg2] ⟨R.First + kk, N, zs, tg2⟩ wZ (of_rd_KeyRing (x := ⟨R.First + kk, [s0]⟩) hsA18) (of_rd_Cipher (x := ⟨R.First + kk, N, zs, tg2⟩) hsA15b) (by rw [sz_KeyRing, sz_IntS]; simp) (by rw [sz_Cipher, sz_ByteS]; simp only [HML2.out, Hn.out]; omega)
        rw [hop3, hop4] at hO2
        refine hO2.mono ?_
        rintro e wQ ⟨vQ, rfl, hoQ, hbQ⟩
        obtain ⟨AQ, cQ, rfl⟩ := hoQ.form
        have hrQ := (rd_ByteS (hoQ.rd_in (fun g h => h) (Nat.le_refl _))).2.1
        have hzQ := hbQ.size
        rw [Hn.out]
        have hpQ := (hpA.below hbQ (Nat.le_refl _)).more hzQ
        clear hc15 hc18 hop3 hop4 hO2
        go_wp2_with fail
        refine (laws_sameBytes AQ Ap cQ cp n xs wQ hrQ hpQ Hn.out (by omega)).mono ?_
        rintro e wS2 ⟨rfl, hbS2⟩
        go_wp2
        go_ret
        have hfin := hbrZ.trans ((hbQ.trans (hbS2.mono hzQ)).mono hbrZ.size)
        exact ⟨rfl, hbr.trans (hfin.mono hbr.size)⟩
end Go.Proofs.Ytlncnicpiadaaaa

/- Frames of records, both sides. -/
import Derived.Test.YtndgaakfndokgaaSpecEncode
import Derived.Test.YtndgaakfndokgaaWide
import Derived.Test.YtndgaakfndokgaaDigest
import Derived.Test.YtndgaakfndokgaaByteS2
set_option linter.unusedSimpArgs false
set_option linter.unusedVariables false
set_option maxRecDepth 20000
namespace Go.Proofs.Ytndgaakfndokgaa
open Go.RowKit
def digN (b : List UInt8) : Nat := (digest b % 4294967296).toNat
theorem digN_cast (b : List UInt8) : ((digN b : Nat) : Int) = digest b % 4294967296 := by unfold digN; have := digest_bd b; omega
theorem digN_le (b : List UInt8) : digN b ≤ 4294967296 := by unfold digN; have := digest_bd b; omega
def frameOf (b : List UInt8) : List UInt8 := wideB b.length 2 ++ b ++ wideB (digN b) 4
def frameB (r : Record) : List UInt8 := match encOk r with | true => frameOf (encB r) | false => []
theorem frameB_yes {r : Record} (h : encOk r = true) : frameB r = frameOf (encB r) := by unfold frameB; rw [h]
theorem frameB_no {r : Record} (h : encOk r = false) : frameB r = [] := by unfold frameB; rw [h]
theorem frameOf_len (b : List UInt8) : (frameOf b).length = b.length + 6 := by unfold frameOf; rw [List.length_append, List.length_append, wideB_len, wideB_len]; omega
theorem frameB_le (r : Record) : (frameB r).length ≤ 4006 := by
  cases h : encOk r
  · rw [frameB_no h]; simp
  · rw [frameB_yes h, frameOf_len]; have := encB_le r; omega
set_option maxHeartbeats 1600000 in
theorem impl_frameRecord (cs : List Value) (r : Record) (w : World) (h : RecordR.Rd w w.heap.size cs r) (hm : RecordR.sz r ≤ 1048576) :
    Calls Try.prog 34 #[.agg cs.toArray] w fun e w' => ∃ A c, e = .returned (.tuple #[.slice A (frameB r).length c, .bool (encOk r)]) ∧ w'.ownsRow w.heap.size 5 1 (.slice A (frameB r).length c) (frameB r).length ((frameB r).map byteV) ∧ Below w.heap.size w w' := by
  obtain ⟨i0, hi0, hI0, hI1, hI2⟩ := info_parts info_uint8
  obtain ⟨v0, v1, rfl, q0, q1⟩ := rd_Record h
  obtain ⟨A0, c0, rfl⟩ := q0.form
  obtain ⟨A1, c1, rfl⟩ := q1.form
  have hle := encB_le r
  have HE := Lib.hid (fun w' hr => impl_encodeRecord [.int .i64 r.Kind, .slice A0 r.Nums.length c0, .slice A1 r.Texts.length c1] r w' hr hm)
  cases hok : encOk r
  · rw [frameB_no hok]
    rw [hok] at HE
    clear hok
    go_enter Try.func34, Try.ntmps34
    go_wp2_with fail
    refine (HE.out _ (RecordR.rd_keep h (by (repeat (first | (with_reducible exact Below.refl _ _) | (with_reducible assumption) | ((with_reducible refine Below.setCell ?_ ?_ _); rotate_left; focus (first | omega | (simp; done) | (simp; omega))) | ((with_reducible refine Below.alloc ?_ ?_ _); rotate_left; focus (first | omega | (simp; done) | (simp; omega))) | (with_reducible refine Below.drew ?_) | (with_reducible refine below_drewN ?_ _) | (refine Below.trans ?_ (Below.mono (by with_reducible assumption) (by (first | omega | (simp; done) | (simp; omega)))))))) (by first | omega | (simp; done) | (simp; omega)))).mono ?_
    rintro e w1 ⟨D0, d0, rfl, ho, hb1⟩
    go_wp2
    go_ret2
    exact ⟨none, 0, rfl, World.ownsRow_nil _ _ _ _, by (repeat (first | (with_reducible exact Below.refl _ _) | (with_reducible assumption) | ((with_reducible refine Below.setCell ?_ ?_ _); rotate_left; focus (first | omega | (simp; done) | (simp; omega))) | ((with_reducible refine Below.alloc ?_ ?_ _); rotate_left; focus (first | omega | (simp; done) | (simp; omega))) | (with_reducible refine Below.drew ?_) | (with_reducible refine below_drewN ?_ _) | (refine Below.trans ?_ (Below.mono (by with_reducible assumption) (by (first | omega | (simp; done) | (simp; omega)))))))⟩
  · rw [frameB_yes hok]
    rw [hok] at HE
    clear hok
    generalize encB r = b at *
    have hD0 := digest_bd b
    have hDc := digN_cast b
    have hDl := digN_le b
    have H1 := Lib.hid (bytes_one b)
    have hfl : (frameOf b).length = b.length + 6 := frameOf_len b
    have HFl := Lib.hid hfl
    clear hfl
    generalize hbl : b.length = n at *
    have Hbl := Lib.hid hbl
    clear hbl
    obtain ⟨G, hG⟩ : ∃ G : Int, G = digest b := ⟨_, rfl⟩
    have HDig := Lib.hid (fun w' A c hr => by have h := impl_digest A c b w' hr (by rw [Hbl.out]; omega); rw [Hbl.out, ← hG] at h; exact h)
    rw [← hG] at hD0 hDc
    obtain ⟨hD1, hD2⟩ := hD0
    have HDc := Lib.hid hDc
    clear hG hDc
    go_enter Try.func34, Try.ntmps34
    go_wp2_with fail
    refine (HE.out _ (RecordR.rd_keep h (by (repeat (first | (with_reducible exact Below.refl _ _) | (with_reducible assumption) | ((with_reducible refine Below.setCell ?_ ?_ _); rotate_left; focus (first | omega | (simp; done) | (simp; omega))) | ((with_reducible refine Below.alloc ?_ ?_ _); rotate_left; focus (first | omega | (simp; done) | (simp; omega))) | (with_reducible refine Below.drew ?_) | (with_reducible refine below_drewN ?_ _) | (refine Below.trans ?_ (Below.mono (by with_reducible assumption) (by (first | omega | (simp; done) | (simp; omega)))))))) (by first | omega | (simp; done) | (simp; omega)))).mono ?_
    rintro e w1 ⟨D0, d0, rfl, ho, hb1⟩
    have hbw1 : Below w.heap.size w w1 := by (repeat (first | (with_reducible exact Below.refl _ _) | (with_reducible assumption) | ((with_reducible refine Below.setCell ?_ ?_ _); rotate_left; focus (first | omega | (simp; done) | (simp; omega))) | ((with_reducible refine Below.alloc ?_ ?_ _); rotate_left; focus (first | omega | (simp; done) | (simp; omega))) | (with_reducible refine Below.drew ?_) | (with_reducible refine below_drewN ?_ _) | (refine Below.trans ?_ (Below.mono (by with_reducible assumption) (by (first | omega | (simp; done) | (simp; omega)))))))
    have hz1 := hb1.size; try simp at hz1
    clear HE
    go_wp2_with fail
    refine (impl_bigEndian w1.heap.size none 0 [] n 2 w1 (World.ownsRow_nil _ _ _ _) (Nat.le_refl _) (by omega) (by omega) (by simp)).mono ?_
    rintro e w2 ⟨D2, d2, rfl, ho2, hb2⟩
    have hz2 := hb2.size
    have hwl : ([] ++ wideB n 2).length = 2 := by rw [List.nil_append, wideB_len]
    have hwm : ([] ++ wideB n 2).map byteV = (wideB n 2).map byteV := by rw [List.nil_append]
    rw [hwl, hwm] at ho2
    simp only [hwl]
    clear hwl hwm
    have hrA : Reads w2 w1.heap.size D0 (b.map byteV) := (Reads.of_own ho).below hb2 (Nat.le_refl _)
    go_wp2_with (first
    | (go_at_call 53; (with_reducible refine (HDig.out _ _ _ ?_).mono ?_); (focus (exact ((Reads.of_own ho).below (Below.grown hb2 hgrow (by omega) (fun g e => (ho2.lt _ e).1)) (Nat.le_refl _)).more (by have := hgrow.size; omega))); rintro e w4 ⟨rfl, rfl⟩)
    | (at_builtin; go_loud (refine wpList_append_reads rfl _ _ 22 rfl w1.heap.size 5 i0 (.int .u8 0) 1 1 Try.underlying22 hi0 hI0 hI1 hI2 rfl (by decide) _ _ _ rfl ho2 w1.heap.size D0 n d0 (b.map byteV) rfl ?c0 hrA H1.out ?c3 ?c4 ?c5 ?_; (case c0 => rw [List.length_map, Hbl.out, Nat.mul_one]); (case c3 => (simp only [maxLen]; omega)); (case c4 => omega); (case c5 => (first | omega | (simp; done) | (simp; omega))); intro v' wA hown1 hgrow hat; obtain ⟨A3, c3, rfl⟩ := own_slice hown1)))
    have hsz := hgrow.size
    have hbA : Below w1.heap.size w1 wA := Below.grown hb2 hgrow (by omega) (fun g e => (ho2.lt _ e).1)
    have hown2 : wA.ownsRow w1.heap.size 5 1 (.slice A3 (wideB n 2 ++ b).length c3) (wideB n 2 ++ b).length ((wideB n 2 ++ b).map byteV) := by
      rw [List.length_append, wideB_len, Hbl.out, List.map_append]; exact hown1
    refine (Calls.cast (by rw [List.length_append, wideB_len, Hbl.out, HDc.out]; rfl) (impl_bigEndian w1.heap.size A3 c3 (wideB n 2 ++ b) (digN b) 4 wA hown2 (by omega) hDl (by omega) (by rw [List.length_append, wideB_len, Hbl.out]; omega))).mono ?_
    rintro e w5 ⟨D5, d5, rfl, ho5, hb5⟩
    have hF : frameOf b = wideB n 2 ++ b ++ wideB (digN b) 4 := by unfold frameOf; rw [Hbl.out]
    have HF := Lib.hid hF
    clear hF
    go_wp2
    go_ret2
    refine ⟨D5, d5, ?_, ?_, ?_⟩
    · rw [HF.out]; simp
    · rw [HF.out]; exact own_base ho5 (by omega)
    · exact hbw1.trans ((hbA.trans hb5).mono (by omega))
set_option maxHeartbeats 1600000 in
theorem spec_FrameRecord (cs : List Value) (r : Record) (w : World) (h : RecordR.Rd w w.heap.size cs r) (hm : RecordR.sz r ≤ 1048576) :
    Calls Try.prog 18 #[.agg cs.toArray] w fun e w' => ∃ A c, e = .returned (.tuple #[.slice A (frameB r).length c, .bool (encOk r)]) ∧ w'.ownsRow w.heap.size 5 1 (.slice A (frameB r).length c) (frameB r).length ((frameB r).map byteV) ∧ Below w.heap.size w w' := by
  obtain ⟨v0, v1, rfl, q0, q1⟩ := rd_Record h
  obtain ⟨A0, c0, rfl⟩ := q0.form
  obtain ⟨A1, c1, rfl⟩ := q1.form
  have hle := encB_le r
  have HE := Lib.hid (fun w' hr => spec_EncodeRecord [.int .i64 r.Kind, .slice A0 r.Nums.length c0, .slice A1 r.Texts.length c1] r w' hr hm)
  cases hok : encOk r
  · rw [frameB_no hok]
    rw [hok] at HE
    clear hok
    go_enter Try.func18, Try.ntmps18
    go_wp2_with fail
    refine (HE.out _ (RecordR.rd_keep h (by (repeat (first | (with_reducible exact Below.refl _ _) | (with_reducible assumption) | ((with_reducible refine Below.setCell ?_ ?_ _); rotate_left; focus (first | omega | (simp; done) | (simp; omega))) | ((with_reducible refine Below.alloc ?_ ?_ _); rotate_left; focus (first | omega | (simp; done) | (simp; omega))) | (with_reducible refine Below.drew ?_) | (with_reducible refine below_drewN ?_ _) | (refine Below.trans ?_ (Below.mono (by with_reducible assumption) (by (first | omega | (simp; done) | (simp; omega)))))))) (by first | omega | (simp; done) | (simp; omega)))).mono ?_
    rintro e w1 ⟨D0, d0, rfl, ho, hb1⟩
    go_wp2
    go_ret2
    exact ⟨none, 0, rfl, World.ownsRow_nil _ _ _ _, by (repeat (first | (with_reducible exact Below.refl _ _) | (with_reducible assumption) | ((with_reducible refine Below.setCell ?_ ?_ _); rotate_left; focus (first | omega | (simp; done) | (simp; omega))) | ((with_reducible refine Below.alloc ?_ ?_ _); rotate_left; focus (first | omega | (simp; done) | (simp; omega))) | (with_reducible refine Below.drew ?_) | (with_reducible refine below_drewN ?_ _) | (refine Below.trans ?_ (Below.mono (by with_reducible assumption) (by (first | omega | (simp; done) | (simp; omega)))))))⟩
  · rw [frameB_yes hok]
    rw [hok] at HE
    clear hok
    generalize encB r = b at *
    have hD0 := digest_bd b
    have hDc := digN_cast b
    have hDl := digN_le b
    generalize hbl : b.length = n at *
    have Hbl := Lib.hid hbl
    clear hbl
    obtain ⟨G, hG⟩ : ∃ G : Int, G = digest b := ⟨_, rfl⟩
    have HDig := Lib.hid (fun w' A c hr => by have h := spec_Digest A c b w' hr (by rw [Hbl.out]; omega); rw [Hbl.out, ← hG] at h; exact h)
    rw [← hG] at hD0 hDc
    obtain ⟨hD1, hD2⟩ := hD0
    have HDc := Lib.hid hDc
    clear hG hDc
    go_enter Try.func18, Try.ntmps18
    go_wp2_with fail
    refine (HE.out _ (RecordR.rd_keep h (by (repeat (first | (with_reducible exact Below.refl _ _) | (with_reducible assumption) | ((with_reducible refine Below.setCell ?_ ?_ _); rotate_left; focus (first | omega | (simp; done) | (simp; omega))) | ((with_reducible refine Below.alloc ?_ ?_ _); rotate_left; focus (first | omega | (simp; done) | (simp; omega))) | (with_reducible refine Below.drew ?_) | (with_reducible refine below_drewN ?_ _) | (refine Below.trans ?_ (Below.mono (by with_reducible assumption) (by (first | omega | (simp; done) | (simp; omega)))))))) (by first | omega | (simp; done) | (simp; omega)))).mono ?_
    rintro e w1 ⟨D0, d0, rfl, ho, hb1⟩
    have hbw1 : Below w.heap.size w w1 := by (repeat (first | (with_reducible exact Below.refl _ _) | (with_reducible assumption) | ((with_reducible refine Below.setCell ?_ ?_ _); rotate_left; focus (first | omega | (simp; done) | (simp; omega))) | ((with_reducible refine Below.alloc ?_ ?_ _); rotate_left; focus (first | omega | (simp; done) | (simp; omega))) | (with_reducible refine Below.drew ?_) | (with_reducible refine below_drewN ?_ _) | (refine Below.trans ?_ (Below.mono (by with_reducible assumption) (by (first | omega | (simp; done) | (simp; omega)))))))
    have hz1 := hb1.size; try simp at hz1
    clear HE
    go_wp2_with fail
    refine (spec_l05Wide n 2 w1 (by omega) (by omega)).mono ?_
    rintro e w2 ⟨D2, d2, rfl, ho2, hb2⟩
    have hz2 := hb2.size
    go_wp2_with fail
    have hrB : Reads w2 w2.heap.size D0 (b.map byteV) := ((Reads.of_own ho).below hb2 (Nat.le_refl _)).more (by omega)
    have hwl2 := wideB_len n 2
    have HJ := Lib.hid (fun w' A2 A0 c2 c0 (h1 : Reads w' w'.heap.size A2 ((wideB n 2).map byteV)) (h2 : Reads w' w'.heap.size A0 (b.map byteV)) => (Calls.cast (by rw [Hbl.out]) (spec_l01Join A2 A0 c2 c0 (wideB n 2) b w' h1 h2 (by rw [wideB_len]; omega) (by rw [Hbl.out]; omega)) : Calls Try.prog 28 #[.slice A2 (wideB n 2).length c2, .slice A0 n c0] w' _))
    go_wp2_with fail
    with_reducible refine (HJ.out _ _ _ _ _ ?_ ?_).mono ?_
    · exact Reads.of_own ho2
    · exact hrB
    rintro e w3 ⟨D3, d3, rfl, ho3, hb3⟩
    have hz3 := hb3.size
    clear HJ
    have hl3 : (wideB n 2 ++ b).length = 2 + n := by rw [List.length_append, wideB_len, Hbl.out]
    go_wp2_with fail
    with_reducible refine (HDig.out _ _ _ ?_).mono ?_
    · exact (hrB.below hb3 (by omega)).more (by omega)
    rintro e w4 ⟨rfl, rfl⟩
    go_wp2_with fail
    have HW := Lib.hid (Calls.cast (by rw [HDc.out]; rfl) (spec_l05Wide (digN b) 4 w3 hDl (by omega)) : Calls Try.prog 39 #[.int .i64 (G % 4294967296), .int .i64 4] w3 _)
    with_reducible refine HW.out.mono ?_
    clear HW
    rintro e w5 ⟨D5, d5, rfl, ho5, hb5⟩
    have hz5 := hb5.size
    have hwl := wideB_len (digN b) 4
    have hr3 : Reads w5 w5.heap.size D3 ((wideB n 2 ++ b).map byteV) := ((Reads.of_own ho3).below hb5 (Nat.le_refl _)).more (by omega)
    have HJ := Lib.hid (Calls.cast (by rw [hl3, hwl]) (spec_l01Join D3 D5 d3 d5 (wideB n 2 ++ b) (wideB (digN b) 4) w5 hr3 (Reads.of_own ho5) (by omega) (by omega)) : Calls Try.prog 28 #[.slice D3 (2 + n) d3, .slice D5 4 d5] w5 _)
    go_wp2_with fail
    with_reducible refine HJ.out.mono ?_
    clear HJ
    rintro e w6 ⟨D6, d6, rfl, ho6, hb6⟩
    have hz6 := hb6.size
    have hF : frameOf b = wideB n 2 ++ b ++ wideB (digN b) 4 := by unfold frameOf; rw [Hbl.out]
    have HF := Lib.hid hF
    clear hF hwl hl3
    go_wp2
    go_ret2
    refine ⟨D6, d6, ?_, ?_, ?_⟩
    · rw [HF.out]; simp [wideB_len]
    · rw [HF.out]; exact own_base ho6 (by omega)
    · (repeat (first | (with_reducible exact Below.refl _ _) | (with_reducible assumption) | ((with_reducible refine Below.setCell ?_ ?_ _); rotate_left; focus (first | omega | (simp; done) | (simp; omega))) | ((with_reducible refine Below.alloc ?_ ?_ _); rotate_left; focus (first | omega | (simp; done) | (simp; omega))) | (with_reducible refine Below.drew ?_) | (with_reducible refine below_drewN ?_ _) | (refine Below.trans ?_ (Below.mono (by with_reducible assumption) (by (first | omega | (simp; done) | (simp; omega)))))))
end Go.Proofs.Ytndgaakfndokgaa

/- impl.scanFrames: the walk (printed by wip/gen/genscan.py). -/
import Derived.Test.YtndgaakfndokgaaPkScan
set_option linter.unusedSimpArgs false
set_option linter.unusedVariables false
set_option maxRecDepth 20000
namespace Go.Proofs.Ytndgaakfndokgaa
open Go.RowKit
set_option maxHeartbeats 6400000 in
theorem impl_scanFrames (A : Option Addr) (c : Nat) (b : List UInt8) (w : World) (hr : Reads w w.heap.size A (b.map byteV)) (hc : b.length ≤ c) (hc2 : c ≤ 9223372036854775807) (hm : b.length ≤ 1048576) :
    Calls Try.prog 35 #[.slice A b.length c] w fun e w' => ∃ v, e = .returned (.tuple #[v, .int .i64 ((scanF b).2.1 : Nat), .int .i64 (scanF b).2.2]) ∧ SlOwn RecordR 27 w' (InR w.heap.size w'.heap.size) v (scanF b).1 ∧ Below w.heap.size w w' := by
  obtain ⟨i0, hi0, hI0, hI1, hI2⟩ := info_parts info_Record
  generalize hL : b.length = L at *
  have HL := Lib.hid hL
  clear hL
  by_cases hbig : 40000 < L
  · have HS := Lib.hid (scanF_long (b := b) (by rw [HL.out]; omega))
    go_enter Try.func35, Try.ntmps35
    go_wp2
    go_ret3
    exact ⟨.slice none 0 0, by rw [HS.out]; rfl, by rw [HS.out]; exact SlOwn.nil _ _ _ _, by (repeat (first | (with_reducible exact Below.refl _ _) | (with_reducible assumption) | ((with_reducible refine Below.setCell ?_ ?_ _); rotate_left; focus (first | omega | (simp; done) | (simp; omega))) | ((with_reducible refine Below.alloc ?_ ?_ _); rotate_left; focus (first | omega | (simp; done) | (simp; omega))) | (with_reducible refine Below.drew ?_) | (with_reducible refine below_drewN ?_ _) | (refine Below.trans ?_ (Below.mono (by with_reducible assumption) (by (first | omega | (simp; done) | (simp; omega)))))))⟩
  skip
  go_enter Try.func35, Try.ntmps35
  go_wp2
  go_loopw [5, 6] (fun sl i wr => ∃ (a : Nat) (D : Option Addr) (n d : Nat) (css : List (List Value)) (xs : List Record), a ≤ L ∧ i = .int .i64 a ∧ sl = .slice D n d ∧ n ≤ a ∧ Below w.heap.size w wr ∧ w.heap.size ≤ wr.heap.size ∧ Hid (Grow RecordR 27 wr w.heap.size D n d css xs) ∧ ∃ f : Nat, L + 1 ≤ a + f ∧ Hid (scanF b = scanG b f a xs)) (fun _ i _ => L - (intOf i).toNat)
  case atStart => exact ⟨0, none, 0, 0, [], [], Nat.zero_le _, rfl, rfl, Nat.zero_le _, by (repeat (first | (with_reducible exact Below.refl _ _) | (with_reducible assumption) | ((with_reducible refine Below.setCell ?_ ?_ _); rotate_left; focus (first | omega | (simp; done) | (simp; omega))) | ((with_reducible refine Below.alloc ?_ ?_ _); rotate_left; focus (first | omega | (simp; done) | (simp; omega))) | (with_reducible refine Below.drew ?_) | (with_reducible refine below_drewN ?_ _) | (refine Below.trans ?_ (Below.mono (by with_reducible assumption) (by (first | omega | (simp; done) | (simp; omega))))))), by omega, Lib.hid (Grow.nil _ _ _ _), L + 1, by omega, Lib.hid (by rw [scanF_start (by rw [HL.out]; omega), HL.out])⟩
  case round =>
    skip
    obtain ⟨a, D, n, d, css, xs, ha, rfl, rfl, hna, hb, hzr, HG, f, hf, hinv⟩ := hrel
    obtain ⟨f, rfl⟩ : ∃ q, f = q + 1 := ⟨f - 1, by omega⟩
    by_cases hlt : a < L
    rotate_left
    · have HS := Lib.hid (hinv.out.trans (scan_end (by rw [HL.out]; omega)))
      go_wp2
      refine bodyPost_ret (v := .tuple #[.slice D n d, .int .i64 a, .int .i64 0]) (by simp [results, Try.results35, go_sem]) rfl ⟨.slice D n d, by rw [HS.out], ?_, by (repeat (first | (with_reducible exact Below.refl _ _) | (with_reducible assumption) | ((with_reducible refine Below.setCell ?_ ?_ _); rotate_left; focus (first | omega | (simp; done) | (simp; omega))) | ((with_reducible refine Below.alloc ?_ ?_ _); rotate_left; focus (first | omega | (simp; done) | (simp; omega))) | (with_reducible refine Below.drew ?_) | (with_reducible refine below_drewN ?_ _) | (refine Below.trans ?_ (Below.mono (by with_reducible assumption) (by (first | omega | (simp; done) | (simp; omega)))))))⟩
      rw [HS.out]
      exact SlOwn.wide ((HG.out.keep (by (repeat (first | (with_reducible exact Below.refl _ _) | (with_reducible assumption) | ((with_reducible refine Below.setCell ?_ ?_ _); rotate_left; focus (first | omega | (simp; done) | (simp; omega))) | ((with_reducible refine Below.alloc ?_ ?_ _); rotate_left; focus (first | omega | (simp; done) | (simp; omega))) | (with_reducible refine Below.drew ?_) | (with_reducible refine below_drewN ?_ _) | (refine Below.trans ?_ (Below.mono (by with_reducible assumption) (by (first | omega | (simp; done) | (simp; omega))))))))).sl (by decide)) (inR_mono (by first | omega | (simp; done) | (simp; omega)) (by first | omega | (simp; done) | (simp; omega)))
    have hal : a < b.length := by rw [HL.out]; exact hlt
    by_cases h2 : L - a < 2
    · have HS := Lib.hid (hinv.out.trans (scan_stop hal (step_short (by rw [HL.out]; exact h2)) (by decide)))
      clear hal
      obtain ⟨AR, hrR, hrunR⟩ := run_rest hr HL.out a (by omega) hc

      go_wp2
      refine bodyPost_ret (v := .tuple #[.slice D n d, .int .i64 a, .int .i64 1]) (by simp [results, Try.results35, go_sem]) rfl ⟨.slice D n d, by rw [HS.out], ?_, by (repeat (first | (with_reducible exact Below.refl _ _) | (with_reducible assumption) | ((with_reducible refine Below.setCell ?_ ?_ _); rotate_left; focus (first | omega | (simp; done) | (simp; omega))) | ((with_reducible refine Below.alloc ?_ ?_ _); rotate_left; focus (first | omega | (simp; done) | (simp; omega))) | (with_reducible refine Below.drew ?_) | (with_reducible refine below_drewN ?_ _) | (refine Below.trans ?_ (Below.mono (by with_reducible assumption) (by (first | omega | (simp; done) | (simp; omega)))))))⟩
      rw [HS.out]
      exact SlOwn.wide ((HG.out.keep (by (repeat (first | (with_reducible exact Below.refl _ _) | (with_reducible assumption) | ((with_reducible refine Below.setCell ?_ ?_ _); rotate_left; focus (first | omega | (simp; done) | (simp; omega))) | ((with_reducible refine Below.alloc ?_ ?_ _); rotate_left; focus (first | omega | (simp; done) | (simp; omega))) | (with_reducible refine Below.drew ?_) | (with_reducible refine below_drewN ?_ _) | (refine Below.trans ?_ (Below.mono (by with_reducible assumption) (by (first | omega | (simp; done) | (simp; omega))))))))).sl (by decide)) (inR_mono (by first | omega | (simp; done) | (simp; omega)) (by first | omega | (simp; done) | (simp; omega)))
    have hal1 : a + 1 < b.length := by rw [HL.out]; omega
    obtain ⟨K0, hK0, hKa⟩ : ∃ K0 : Int, K0 = ((b[a]'hal).toNat : Int) ∧ (0 ≤ K0 ∧ K0 < 256) := ⟨_, rfl, by have := (b[a]'hal).toNat_lt; omega⟩
    obtain ⟨K1, hK1, hKb⟩ : ∃ K1 : Int, K1 = ((b[a + 1]'hal1).toNat : Int) ∧ (0 ≤ K1 ∧ K1 < 256) := ⟨_, rfl, by have := (b[a + 1]'hal1).toNat_lt; omega⟩
    obtain ⟨hKa1, hKa2⟩ := hKa
    obtain ⟨hKb1, hKb2⟩ := hKb
    have HH : Hid (256 * K0 + K1 = (headN b a : Int)) := Lib.hid (by rw [hK0, hK1]; exact head_at (List.getElem?_eq_getElem hal) (List.getElem?_eq_getElem hal1))
    obtain ⟨g, off, rfl, hab, hy0⟩ := hr.at_ (k := a) (by rw [List.length_map]; exact hal) hb (Nat.le_refl _)
    have hy1 : wr.cell? ⟨g, off + (a + 1), none⟩ = some (.int .u8 K1) := by
      obtain ⟨g', off', e, _, h⟩ := hr.at_ (k := a + 1) (by rw [List.length_map]; exact hal1) hb (Nat.le_refl _)
      simp only [Option.some.injEq, Addr.mk.injEq, and_true] at e
      obtain ⟨rfl, rfl⟩ := e
      rw [h, List.getElem_map, hK1]; rfl
    replace hy0 : wr.cell? ⟨g, off + a, none⟩ = some (.int .u8 K0) := by rw [hy0, List.getElem_map, hK0]; rfl
    have HSz := Lib.hid (fun (h : withinB (headN b a : Int) 3 4000 = false) => hinv.out.trans (scan_stop hal (step_size (by rw [HL.out]; exact h2) h) (by decide)))
    have HTo := Lib.hid (fun (h : withinB (headN b a : Int) 3 4000 = true) (h3 : L - a < headN b a + 6) => hinv.out.trans (scan_stop hal (step_torn (by rw [HL.out]; exact h2) h (by rw [HL.out]; exact h3)) (by decide)))
    have HNo := Lib.hid (fun (h : withinB (headN b a : Int) 3 4000 = true) (h3 : ¬ L - a < headN b a + 6) (hg : goodAt b a = false) => hinv.out.trans (scan_stop hal (step_no (by rw [HL.out]; exact h2) h (by rw [HL.out]; exact h3) hg) (by decide)))
    have HYes := Lib.hid (fun (h : withinB (headN b a : Int) 3 4000 = true) (h3 : ¬ L - a < headN b a + 6) (hg : goodAt b a = true) => hinv.out.trans (scan_go hal (step_yes (by rw [HL.out]; exact h2) h (by rw [HL.out]; exact h3) hg)))
    have HB1 := Lib.hid (fun h => body_len (b := b) (a := a) h)
    have HT1 := Lib.hid (fun h => tail_len (b := b) (a := a) h)
    have HBe : Hid (bodyB b a = (b.drop (a + 2)).take (headN b a)) := Lib.hid rfl
    have HTe : Hid (tailB b a = (b.drop (a + 2 + headN b a)).take 4) := Lib.hid rfl
    have HGo : Hid (goodAt b a = (decOk (bodyB b a) && decide (tailB b a = wideB (digN (bodyB b a)) 4))) := Lib.hid rfl
    generalize bodyB b a = B1 at *
    generalize tailB b a = T1 at *
    generalize goodAt b a = Gd at *
    generalize headN b a = N at *
    have hN0 : N < 65536 := by have := HH.out; omega
    have hKK : Hid (∃ x y : UInt8, b[a]? = some x ∧ b[a + 1]? = some y ∧ K0 = x.toNat ∧ K1 = y.toNat) := Lib.hid ⟨_, _, List.getElem?_eq_getElem hal, List.getElem?_eq_getElem hal1, hK0, hK1⟩
    clear hK0 hK1 hal hal1 hinv
    obtain ⟨AR, hrR, hrunR⟩ := run_rest hr HL.out a (by omega) hc

    have hcR : ∃ gR oR, AR = some ⟨gR, oR, none⟩ ∧ wr.cell? ⟨gR, oR, none⟩ = some (.int .u8 K0) ∧ wr.cell? ⟨gR, oR + 1, none⟩ = some (.int .u8 K1) := by
      obtain ⟨q, hq⟩ : ∃ q, q = L - a := ⟨_, rfl⟩
      obtain ⟨gR, oR, e1, _, e3⟩ := hrR.at_ (k := 0) (by rw [List.length_map, List.length_drop, HL.out]; omega) hb (Nat.le_refl _)
      obtain ⟨gS, oS, e4, _, e6⟩ := hrR.at_ (k := 1) (by rw [List.length_map, List.length_drop, HL.out]; omega) hb (Nat.le_refl _)
      rw [e1] at e4
      simp only [Option.some.injEq, Addr.mk.injEq, and_true] at e4
      obtain ⟨rfl, rfl⟩ := e4
      obtain ⟨x, y, x1, y1, x2, y2⟩ := hKK.out
      obtain ⟨_, x3⟩ := List.getElem?_eq_some_iff.1 x1
      obtain ⟨_, y3⟩ := List.getElem?_eq_some_iff.1 y1
      refine ⟨gR, oR, e1, ?_, ?_⟩
      · rw [Nat.add_zero] at e3
        rw [e3, List.getElem_map, List.getElem_drop, x2]
        simp only [Nat.add_zero, x3]
        rfl
      · rw [e6, List.getElem_map, List.getElem_drop, y2]
        simp only [y3]
        rfl
    obtain ⟨gR, oR, rfl, hz0, hz1⟩ := hcR
    have hor : bits .or .i64 (K0 * 256) K1 = (N : Int) := by
      rw [← HH.out]
      obtain ⟨x, rfl⟩ : ∃ x : Nat, K0 = x := ⟨K0.toNat, by omega⟩
      obtain ⟨y, rfl⟩ : ∃ y : Nat, K1 = y := ⟨K1.toNat, by omega⟩
      exact head_or (by omega) (by omega)
    go_wp2_with fail
    go_quiet (fail)

    cases hw : withinB (N : Int) 3 4000
    · have HS := Lib.hid (HSz.out hw)
      have HW := Lib.hid hw
      clear hw
      go_wp2_with (go_at_call 49; refine (impl_within_b HW.out _).mono ?_; rintro e w' ⟨rfl, rfl⟩)
      refine bodyPost_ret (v := .tuple #[.slice D n d, .int .i64 a, .int .i64 2]) (by simp [results, Try.results35, go_sem]) rfl ⟨.slice D n d, by rw [HS.out], ?_, by (repeat (first | (with_reducible exact Below.refl _ _) | (with_reducible assumption) | ((with_reducible refine Below.setCell ?_ ?_ _); rotate_left; focus (first | omega | (simp; done) | (simp; omega))) | ((with_reducible refine Below.alloc ?_ ?_ _); rotate_left; focus (first | omega | (simp; done) | (simp; omega))) | (with_reducible refine Below.drew ?_) | (with_reducible refine below_drewN ?_ _) | (refine Below.trans ?_ (Below.mono (by with_reducible assumption) (by (first | omega | (simp; done) | (simp; omega)))))))⟩
      rw [HS.out]
      exact SlOwn.wide ((HG.out.keep (by (repeat (first | (with_reducible exact Below.refl _ _) | (with_reducible assumption) | ((with_reducible refine Below.setCell ?_ ?_ _); rotate_left; focus (first | omega | (simp; done) | (simp; omega))) | ((with_reducible refine Below.alloc ?_ ?_ _); rotate_left; focus (first | omega | (simp; done) | (simp; omega))) | (with_reducible refine Below.drew ?_) | (with_reducible refine below_drewN ?_ _) | (refine Below.trans ?_ (Below.mono (by with_reducible assumption) (by (first | omega | (simp; done) | (simp; omega))))))))).sl (by decide)) (inR_mono (by first | omega | (simp; done) | (simp; omega)) (by first | omega | (simp; done) | (simp; omega)))
    obtain ⟨hN1, hN2⟩ := withinB_iff.1 hw
    by_cases h3 : L - a < N + 6
    · have HS := Lib.hid (HTo.out hw h3)
      have HW := Lib.hid hw
      clear hw
      go_wp2_with (go_at_call 49; refine (impl_within_b HW.out _).mono ?_; rintro e w' ⟨rfl, rfl⟩)
      refine bodyPost_ret (v := .tuple #[.slice D n d, .int .i64 a, .int .i64 1]) (by simp [results, Try.results35, go_sem]) rfl ⟨.slice D n d, by rw [HS.out], ?_, by (repeat (first | (with_reducible exact Below.refl _ _) | (with_reducible assumption) | ((with_reducible refine Below.setCell ?_ ?_ _); rotate_left; focus (first | omega | (simp; done) | (simp; omega))) | ((with_reducible refine Below.alloc ?_ ?_ _); rotate_left; focus (first | omega | (simp; done) | (simp; omega))) | (with_reducible refine Below.drew ?_) | (with_reducible refine below_drewN ?_ _) | (refine Below.trans ?_ (Below.mono (by with_reducible assumption) (by (first | omega | (simp; done) | (simp; omega)))))))⟩
      rw [HS.out]
      exact SlOwn.wide ((HG.out.keep (by (repeat (first | (with_reducible exact Below.refl _ _) | (with_reducible assumption) | ((with_reducible refine Below.setCell ?_ ?_ _); rotate_left; focus (first | omega | (simp; done) | (simp; omega))) | ((with_reducible refine Below.alloc ?_ ?_ _); rotate_left; focus (first | omega | (simp; done) | (simp; omega))) | (with_reducible refine Below.drew ?_) | (with_reducible refine below_drewN ?_ _) | (refine Below.trans ?_ (Below.mono (by with_reducible assumption) (by (first | omega | (simp; done) | (simp; omega))))))))).sl (by decide)) (inR_mono (by first | omega | (simp; done) | (simp; omega)) (by first | omega | (simp; done) | (simp; omega)))
    have hBl : B1.length = N := HB1.out (by rw [HL.out]; omega)
    have hTl : T1.length = 4 := HT1.out (by rw [HL.out]; omega)
    obtain ⟨A1, hr1, hrun1⟩ := run_part' (m := L - a) (c := c - a) hrR (by rw [List.length_drop, HL.out]) 2 N (by omega) (by omega) (l := 2) (u := 2 + N) (by omega) (by omega)
    obtain ⟨A2, hr2, hrun2⟩ := run_part' (m := L - a) (c := c - a) hrR (by rw [List.length_drop, HL.out]) (2 + N) 4 (by omega) (by omega) (l := 2 + (N : Int)) (u := 6 + (N : Int)) (by omega) (by omega)
    rw [List.drop_drop, ← HBe.out] at hr1
    rw [List.drop_drop, ← Nat.add_assoc, ← HTe.out] at hr2
    have HDec := Lib.hid (fun (w' : World) (h : Reads w' w'.heap.size A1 (B1.map byteV)) => impl_decodeRecord (.slice A1 N (c - a - 2)) B1 w' (sl_bytes hBl h (by omega) (by omega)) (by rw [sz_ByteS, hBl]; omega))
    have hD0 := digest_bd B1
    have hDc := digN_cast B1
    have hDl := digN_le B1
    obtain ⟨G, hG⟩ : ∃ G : Int, G = digest B1 := ⟨_, rfl⟩
    rw [← hG] at hD0 hDc
    obtain ⟨hD1, hD2⟩ := hD0
    have HDg := Lib.hid (fun (w' : World) (h : Reads w' w'.heap.size A1 (B1.map byteV)) => (by have h2 := impl_digest A1 (c - a - 2) B1 w' h (by rw [hBl]; omega); rw [hBl, ← hG] at h2; exact h2 : Calls Try.prog 53 #[.slice A1 N (c - a - 2)] w' fun e w'' => e = .returned (.int .i64 G) ∧ w' = w''))
    have HDc := Lib.hid hDc
    have HWi := Lib.hid (fun (w' : World) => (Calls.cast (by rw [HDc.out]) (wide4_impl (digN B1) w' hDl) : Calls Try.prog 52 #[.slice none 0 0, .int .i64 (G % 4294967296), .int .i64 4] w' _))
    have HSm : ∀ GB : Bool, decide (T1 = wideB (digN B1) 4) = GB → _ := fun GB hg => by
      have HSa := Lib.hid (fun (w' : World) (D5 : Option Addr) (d5 : Nat) (h1 : Reads w' w'.heap.size A2 (T1.map byteV)) (h2 : Reads w' w'.heap.size D5 ((wideB (digN B1) 4).map byteV)) => same_impl D5 A2 d5 (c - a - (2 + N)) 4 4 (wideB (digN B1) 4) T1 w' (wideB_len _ _) hTl h2 h1 hg)
      exact HSa
    have HW := Lib.hid hw
    have HBl := Lib.hid hBl; have HTl := Lib.hid hTl
    have HNo2 := Lib.hid (HNo.out hw h3)
    have HYes2 := Lib.hid (HYes.out hw h3)
    clear hw hBl hTl hG hDc HNo HYes HTo HSz
    go_wp2_with (go_at_call 49; refine (impl_within_b HW.out _).mono ?_; rintro e w' ⟨rfl, rfl⟩)
    refine (HDec.out _ (hr1.keep (by (repeat (first | (with_reducible exact Below.refl _ _) | (with_reducible assumption) | ((with_reducible refine Below.setCell ?_ ?_ _); rotate_left; focus (first | omega | (simp; done) | (simp; omega))) | ((with_reducible refine Below.alloc ?_ ?_ _); rotate_left; focus (first | omega | (simp; done) | (simp; omega))) | (with_reducible refine Below.drew ?_) | (with_reducible refine below_drewN ?_ _) | (refine Below.trans ?_ (Below.mono (by with_reducible assumption) (by (first | omega | (simp; done) | (simp; omega)))))))) (by first | omega | (simp; done) | (simp; omega)))).mono ?_
    rintro e w1 ⟨cs1, rfl, ho1, hb1⟩
    obtain ⟨v1, v2, _, _, rfl, p1, p2, -⟩ := own_Record (_root_.id ho1)
    obtain ⟨D1, d1, rfl⟩ := p1.form
    obtain ⟨D2, d2, rfl⟩ := p2.form
    clear p1 p2
    have hz1 := hb1.size; try simp at hz1
    cases hdk : decOk B1
    · have HS := Lib.hid (HNo2.out (by rw [HGo.out, hdk]; rfl))
      clear hdk hrun1 hrun2
      go_wp2_with fail
      go_quiet (fail)
      go_wp2
      refine bodyPost_ret (v := .tuple #[.slice D n d, .int .i64 a, .int .i64 2]) (by simp [results, Try.results35, go_sem]) rfl ⟨.slice D n d, by rw [HS.out], ?_, by (repeat (first | (with_reducible exact Below.refl _ _) | (with_reducible assumption) | ((with_reducible refine Below.setCell ?_ ?_ _); rotate_left; focus (first | omega | (simp; done) | (simp; omega))) | ((with_reducible refine Below.alloc ?_ ?_ _); rotate_left; focus (first | omega | (simp; done) | (simp; omega))) | (with_reducible refine Below.drew ?_) | (with_reducible refine below_drewN ?_ _) | (refine Below.trans ?_ (Below.mono (by with_reducible assumption) (by (first | omega | (simp; done) | (simp; omega)))))))⟩
      rw [HS.out]
      exact SlOwn.wide ((HG.out.keep (by (repeat (first | (with_reducible exact Below.refl _ _) | (with_reducible assumption) | ((with_reducible refine Below.setCell ?_ ?_ _); rotate_left; focus (first | omega | (simp; done) | (simp; omega))) | ((with_reducible refine Below.alloc ?_ ?_ _); rotate_left; focus (first | omega | (simp; done) | (simp; omega))) | (with_reducible refine Below.drew ?_) | (with_reducible refine below_drewN ?_ _) | (refine Below.trans ?_ (Below.mono (by with_reducible assumption) (by (first | omega | (simp; done) | (simp; omega))))))))).sl (by decide)) (inR_mono (by first | omega | (simp; done) | (simp; omega)) (by first | omega | (simp; done) | (simp; omega)))
    cases hg : decide (T1 = wideB (digN B1) 4)
    all_goals
      have HSa := HSm _ hg
      have HGd : Hid (Gd = _) := Lib.hid (by rw [HGo.out, hdk, hg])
      clear HSm hdk hg
      have hs0 : IntKind.i64.wrap (2 + (N : Int)) = 2 + (N : Int) := IntWalk.i64_in _ (by omega)
      have hs1 : IntKind.i64.wrap (6 + (N : Int)) = 6 + (N : Int) := IntWalk.i64_in _ (by omega)
      have hmod : Int.tmod G 4294967296 = G % 4294967296 := Int.tmod_eq_emod_of_nonneg hD1
      have hmod2 : IntKind.i64.wrap (G % 4294967296) = G % 4294967296 := IntWalk.i64_in _ (by omega)
      go_wp2_with fail
      go_region_held3 (fun _ => True) (trivial)
        (first
        | (go_at_call 53; (with_reducible refine (HDg.out _ (hr1.keep (by (repeat (first | (with_reducible exact Below.refl _ _) | (with_reducible assumption) | ((with_reducible refine Below.setCell ?_ ?_ _); rotate_left; focus (first | omega | (simp; done) | (simp; omega))) | ((with_reducible refine Below.alloc ?_ ?_ _); rotate_left; focus (first | omega | (simp; done) | (simp; omega))) | (with_reducible refine Below.drew ?_) | (with_reducible refine below_drewN ?_ _) | (refine Below.trans ?_ (Below.mono (by with_reducible assumption) (by (first | omega | (simp; done) | (simp; omega)))))))) (by first | omega | (simp; done) | (simp; omega)))).mono ?_); rintro e w' ⟨rfl, rfl⟩)
        | (go_at_call 52; (with_reducible refine (HWi.out _).mono ?_); rintro e w5 ⟨D5, d5, rfl, ho5, hb5⟩; (have hz5 := hb5.size; try simp at hz5))
        | (go_at_call 51; (with_reducible refine (HSa.out _ D5 d5 (hr2.keep (by (repeat (first | (with_reducible exact Below.refl _ _) | (with_reducible assumption) | ((with_reducible refine Below.setCell ?_ ?_ _); rotate_left; focus (first | omega | (simp; done) | (simp; omega))) | ((with_reducible refine Below.alloc ?_ ?_ _); rotate_left; focus (first | omega | (simp; done) | (simp; omega))) | (with_reducible refine Below.drew ?_) | (with_reducible refine below_drewN ?_ _) | (refine Below.trans ?_ (Below.mono (by with_reducible assumption) (by (first | omega | (simp; done) | (simp; omega)))))))) (by first | omega | (simp; done) | (simp; omega))) ho5).mono ?_); rintro e w6 ⟨rfl, hs6⟩))
    · have HS := Lib.hid (HNo2.out HGd.out)
      have hb6 := hs6.below w5.heap.size
      have hz6 := hb6.size; try simp at hz6
      go_wp2
      refine bodyPost_ret (v := .tuple #[.slice D n d, .int .i64 a, .int .i64 2]) (by simp [results, Try.results35, go_sem]) rfl ⟨.slice D n d, by rw [HS.out], ?_, by (repeat (first | (with_reducible exact Below.refl _ _) | (with_reducible assumption) | ((with_reducible refine Below.setCell ?_ ?_ _); rotate_left; focus (first | omega | (simp; done) | (simp; omega))) | ((with_reducible refine Below.alloc ?_ ?_ _); rotate_left; focus (first | omega | (simp; done) | (simp; omega))) | (with_reducible refine Below.drew ?_) | (with_reducible refine below_drewN ?_ _) | (refine Below.trans ?_ (Below.mono (by with_reducible assumption) (by (first | omega | (simp; done) | (simp; omega)))))))⟩
      rw [HS.out]
      exact SlOwn.wide ((HG.out.keep (by (repeat (first | (with_reducible exact Below.refl _ _) | (with_reducible assumption) | ((with_reducible refine Below.setCell ?_ ?_ _); rotate_left; focus (first | omega | (simp; done) | (simp; omega))) | ((with_reducible refine Below.alloc ?_ ?_ _); rotate_left; focus (first | omega | (simp; done) | (simp; omega))) | (with_reducible refine Below.drew ?_) | (with_reducible refine below_drewN ?_ _) | (refine Below.trans ?_ (Below.mono (by with_reducible assumption) (by (first | omega | (simp; done) | (simp; omega))))))))).sl (by decide)) (inR_mono (by first | omega | (simp; done) | (simp; omega)) (by first | omega | (simp; done) | (simp; omega)))
    · have HY := Lib.hid (HYes2.out HGd.out)
      have hb6 := hs6.below w5.heap.size
      have hz6 := hb6.size; try simp at hz6
      have BK9 : Blk w6 w1.heap.size 27 #[.int .i64 (decR B1).Kind, .slice D1 (decR B1).Nums.length d1, .slice D2 (decR B1).Texts.length d2] := by (repeat (first | (with_reducible assumption) | ((with_reducible refine Blk.new' ?_); focus (simp; done)) | (with_reducible refine Blk.alloc ?_ _) | (with_reducible refine Blk.drew ?_) | (with_reducible refine Blk.drewN ?_ _) | ((with_reducible refine Blk.far ?_ ?_ _); rotate_left; focus (first | omega | (simp; done) | (simp; omega))) | (refine Blk.keep ?_ (by with_reducible assumption)) | (refine Blk.below ?_ (by with_reducible assumption) (by (first | omega | (simp; done) | (simp; omega))))))
      have hc9 := BK9.cell
      have hb16 : Below w1.heap.size w1 w6 := by (repeat (first | (with_reducible exact Below.refl _ _) | (with_reducible assumption) | ((with_reducible refine Below.setCell ?_ ?_ _); rotate_left; focus (first | omega | (simp; done) | (simp; omega))) | ((with_reducible refine Below.alloc ?_ ?_ _); rotate_left; focus (first | omega | (simp; done) | (simp; omega))) | (with_reducible refine Below.drew ?_) | (with_reducible refine below_drewN ?_ _) | (refine Below.trans ?_ (Below.mono (by with_reducible assumption) (by (first | omega | (simp; done) | (simp; omega)))))))
      have hbW : Below wr.heap.size wr w6 := by (repeat (first | (with_reducible exact Below.refl _ _) | (with_reducible assumption) | ((with_reducible refine Below.setCell ?_ ?_ _); rotate_left; focus (first | omega | (simp; done) | (simp; omega))) | ((with_reducible refine Below.alloc ?_ ?_ _); rotate_left; focus (first | omega | (simp; done) | (simp; omega))) | (with_reducible refine Below.drew ?_) | (with_reducible refine below_drewN ?_ _) | (refine Below.trans ?_ (Below.mono (by with_reducible assumption) (by (first | omega | (simp; done) | (simp; omega)))))))
      have hrow : wr.ownsRow w.heap.size 27 3 (.slice D n d) n css.flatten := HG.out.row
      generalize hcf : css.flatten = cf at hrow
      have HCf := Lib.hid hcf
      clear hcf
      have hrow6 := own_below hrow hbW
      go_wp2_with (first | (at_builtin; go_loud (refine wpList_append_own_at _ rfl _ _ 36 rfl w.heap.size 27 i0 _ 3 56 Try.underlying36 hi0 hI0 hI1 hI2 rfl (by decide) _ _ _ rfl (hrow6.alloc _) ⟨w6.heap.size, 0, none⟩ 1 1 [.int .i64 (decR B1).Kind, .slice D1 (decR B1).Nums.length d1, .slice D2 (decR B1).Texts.length d2] rfl rfl ?c1 ?c2 ?c3 ?c4 ?c5 ?_; (case c1 => exact (World.news_of_block (cs := #[.int .i64 (decR B1).Kind, .slice D1 (decR B1).Nums.length d1, .slice D2 (decR B1).Texts.length d2]) (t := 27) (fr := (0, 0)) (heap_alloc_new w6 _))); (case c2 => simp [Value.oneCell']); (case c3 => (simp only [maxLen]; omega)); (case c4 => omega); (case c5 => (simp; omega)); intro v' wA hown1 hgrow hnil hat; obtain ⟨gg, cap, rfl, hg1, hg2⟩ := hown1.form (by omega))))
      go_roundw
      case rel =>
        have hzg := hgrow.size
        have hzg2 : w6.heap.size + 1 ≤ wA.heap.size := by simpa using hzg
        have hbA : Below wr.heap.size wr (w6.alloc (.cells #[.int .i64 (decR B1).Kind, .slice D1 (decR B1).Nums.length d1, .slice D2 (decR B1).Texts.length d2] 27)) := Below.alloc hbW (by omega) _
        have hbw6 : Below w.heap.size w (w6.alloc (.cells #[.int .i64 (decR B1).Kind, .slice D1 (decR B1).Nums.length d1, .slice D2 (decR B1).Texts.length d2] 27)) := hb.trans (hbA.mono hzr)
        have hoA := RecordR.own_keep ho1 (Below.alloc hb16 (by omega) (.cells #[.int .i64 (decR B1).Kind, .slice D1 (decR B1).Nums.length d1, .slice D2 (decR B1).Texts.length d2] 27))
        have hat2 : (Value.slice D n d).ownBlock = some gg ∨ gg = w6.heap.size + 1 := by
          rcases hat with h | h
          · have h2 : (Value.slice D n d).ownBlock = (Value.slice (some ⟨gg, 0, none⟩) (n + 1) cap).ownBlock := h.symm
            exact Or.inl (by rw [h2]; simp [Value.ownBlock])
          · exact Or.inr (by simpa [Value.ownBlock] using h)
        have hrowlt : ∀ q, (Value.slice D n d).ownBlock = some q → w.heap.size ≤ q := fun q e => (hrow.lt q e).1
        refine ⟨a + N + 6, some ⟨gg, 0, none⟩, n + 1, cap, _, _, by omega, by go_num, rfl, by omega, ?_, by omega, Lib.hid (Grow.snoc HG.out hbA hoA (by first | omega | (simp; done) | (simp; omega)) (by first | omega | (simp; done) | (simp; omega)) hzr (by rw [HCf.out]; exact hown1) hgrow (hat2.imp_right (fun h => by simpa using h))), f, by omega, Lib.hid HY.out⟩
        exact Below.grown hbw6 hgrow (by simp; omega) hrowlt
      case measure => simp [intOf]; omega
end Go.Proofs.Ytndgaakfndokgaa

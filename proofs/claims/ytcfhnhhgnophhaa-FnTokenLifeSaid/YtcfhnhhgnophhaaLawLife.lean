/- FnTokenLife: the walk of the law. -/
import Derived.Test.YtcfhnhhgnophhaaPureLife
import Derived.Test.YtcfhnhhgnophhaaPkDr
import Derived.Test.YtcfhnhhgnophhaaAtLib
import Derived.Test.YtcfhnhhgnophhaaByteS2
import Derived.Test.YtcfhnhhgnophhaaFind
import Derived.Test.YtcfhnhhgnophhaaSpecMake
import Derived.Test.YtcfhnhhgnophhaaPkMk
import Derived.Test.YtcfhnhhgnophhaaPkRun
set_option linter.unusedSimpArgs false
set_option linter.unusedVariables false
set_option maxRecDepth 20000
namespace Go.Proofs.Ytcfhnhhgnophhaa
open Go.RowKit
theorem FDr.small1 {w : World} {X : Nat → Prop} {A : Option Addr} {N c : Nat} {ds : List TokD} (h : FDr w X A N c ds) : szList TokenR (ds.map (·.t)) ≤ 8000 := by
  have h1 := sum_bd (K := 48) (ts := ds.map (·.t)) (fun t ht => by
    obtain ⟨d, hd, rfl⟩ := List.mem_map.1 ht
    have := (h.tok d hd).sz
    omega)
  have := h.len; have := h.few
  unfold szList
  rw [List.length_map] at h1 ⊢
  omega
/-- The forests of the loop. -/
def lifeH (ts : List Token) (t : Token) (k : Nat) : List Token := match decide (0 < t.Uses) && decide (t.Uses < 20) with
  | true => lifeG ts t k
  | false => ts ++ [t]
theorem lifeH_zero (ts : List Token) (t : Token) : lifeH ts t 0 = ts ++ [t] := by
  unfold lifeH
  cases h : (decide (0 < t.Uses) && decide (t.Uses < 20))
  · rfl
  · rw [Bool.and_eq_true, decide_eq_true_eq] at h
    exact life_start ts h.1
theorem lifeH_on (ts : List Token) {t : Token} (h0 : 0 < t.Uses) (h : t.Uses < 20) (k : Nat) : lifeH ts t k = lifeG ts t k := by
  unfold lifeH; rw [decide_eq_true h0, decide_eq_true h]; rfl
theorem lifeH_use {ts : List Token} {t : Token} (h : MakeC ts t = 0) {k : Nat} (hk : (k : Int) < t.Uses) (h2 : t.Uses < 20) : UseC (lifeH ts t k) t.Id t.Made = 0 ∧ UseT (lifeH ts t k) t.Id t.Made = lifeH ts t (k + 1) := by
  rw [lifeH_on ts (by omega) h2, lifeH_on ts (by omega) h2]
  exact life_use h hk
theorem lifeH_end {ts : List Token} {t : Token} (h : MakeC ts t = 0) {k : Nat} (hk : k = 0 ∨ (k : Int) ≤ t.Uses ∧ t.Uses < 20) (hn : ¬ ((k : Int) < t.Uses ∧ t.Uses < 20)) : findOk (lifeH ts t k) t.Id = (t.Uses == 0 || decide (20 ≤ t.Uses)) := by
  obtain ⟨hf, hk1, hl, hp, hn1, -⟩ := make_parts h
  have hu := (tokOk_parts hk1).2.2.2
  by_cases h1 : 0 < t.Uses ∧ t.Uses < 20
  · rw [lifeH_on ts h1.1 h1.2, life_end h (by omega), decide_eq_false (by omega), Bool.or_false]
    have : t.Uses ≠ 0 := by omega
    simpa using this
  · have h2 : lifeH ts t k = ts ++ [t] := by
      unfold lifeH
      rw [show (decide (0 < t.Uses) && decide (t.Uses < 20)) = false by
        rw [Bool.and_eq_false_iff, decide_eq_false_iff_not, decide_eq_false_iff_not]; omega]
    rw [h2, (snoc_find (snoc_ok hf hk1 hl hp hn1)).2.1]
    by_cases h3 : t.Uses = 0
    · rw [h3]; rfl
    · rw [decide_eq_true (by omega), Bool.or_true]
theorem lifeH_sz {ts : List Token} {t : Token} (h : MakeC ts t = 0) (k : Nat) : szList TokenR (lifeH ts t k) ≤ szList TokenR ts + 79 := by
  unfold lifeH
  cases h1 : (decide (0 < t.Uses) && decide (t.Uses < 20))
  · exact snoc_sz ts (make_parts h).2.1
  · exact life_sz h k
theorem endsNew_a {t : Token} {now b : Int} (h : (t.Limit != 0) = false) : endsNew t now b = now + b := by unfold endsNew; rw [h]; rfl
theorem endsNew_b {t : Token} {now b : Int} (h : (t.Limit != 0) = true) (h2 : decide (t.Limit < now + b) = false) : endsNew t now b = now + b := by unfold endsNew; rw [h, h2]; rfl
theorem endsNew_c {t : Token} {now b : Int} (h : (t.Limit != 0) = true) (h2 : decide (t.Limit < now + b) = true) : endsNew t now b = t.Limit := by unfold endsNew; rw [h, h2]; rfl
set_option maxHeartbeats 12800000 in
theorem law_FnTokenLife (v_code : Value) (code : List UInt8) (w : World) (hr_code : SlRd byteR w w.heap.size v_code code) :
    Calls Try.prog 5 #[v_code] w fun e w' => e = .returned (.bool true) ∧ Below w.heap.size w w' := by
  obtain ⟨A0, c0, rfl⟩ := SlRd.form hr_code
  obtain ⟨-, hrd, hcap1, hcap2⟩ := rd_ByteS hr_code
  have HBig := Lib.hid (fun (w' : World) => laws_big A0 code.length c0 w' (by omega))
  by_cases hbig : 1048576 < code.length
  · have hd : decide ((1048576 : Int) < (code.length : Int)) = true := by simp; omega
    rw [hd] at HBig
    go_enter Try.func5, Try.ntmps5
    go_wp2_with fail
    refine (HBig.out _).mono ?_
    rintro e w' ⟨rfl, rfl⟩
    go_wp2
    go_ret
    exact ⟨rfl, by (repeat (first | (with_reducible exact Below.refl _ _) | (with_reducible assumption) | ((with_reducible refine Below.setCell ?_ ?_ _); rotate_left; focus (first | omega | (simp; done) | (simp; omega))) | ((with_reducible refine Below.alloc ?_ ?_ _); rotate_left; focus (first | omega | (simp; done) | (simp; omega))) | (with_reducible refine Below.drew ?_) | (with_reducible refine below_drewN ?_ _) | (refine Below.trans ?_ (Below.mono (by with_reducible assumption) (by (first | omega | (simp; done) | (simp; omega)))))))⟩
  have hd : decide ((1048576 : Int) < (code.length : Int)) = false := by simp; omega
  rw [hd] at HBig
  have HD := Lib.hid (fun (w' : World) (hb : Below w.heap.size w w') => spec_DrawMakeToken A0 c0 code w' (hrd.keep hb hb.size) (by omega))
  have HAt := Lib.hid (fun (w' : World) (hb : Below w.heap.size w w') => laws_at A0 c0 code 0 w' (hrd.keep hb hb.size) (by omega) (by omega))
  obtain ⟨a0, a1⟩ := atV_bd code 0
  generalize atV code 0 = a at *
  generalize code.length = n0 at *
  clear hrd hr_code hcap1 hcap2 hbig
  go_enter Try.func5, Try.ntmps5
  go_wp2_with fail
  refine (HBig.out _).mono ?_
  rintro e w' ⟨rfl, rfl⟩
  go_wp2_with fail
  refine (HD.out _ (Below.refl _ _)).mono ?_
  rintro e w1 ⟨A, N, c, ds, d, rfl, hF, hT, hbw⟩
  clear HD HBig
  have rF := Lib.hid hF.rd
  have HSm := Lib.hid hF.small1
  have HLn : Hid ((ds.map (·.t)).length = N) := Lib.hid (by rw [List.length_map]; exact hF.len)
  have hN := hF.few
  have rT := hT.slrd
  have HTsz : Hid (TokenR.sz d.t ≤ 48) := Lib.hid (by have := hT.sz; omega)
  have hfew := hT.few
  clear hF hT
  generalize ds.map (·.t) = ts at *
  obtain ⟨t, At, ct⟩ := d
  dsimp only at rT HTsz hfew ⊢
  obtain ⟨nt, hnt⟩ : ∃ n, t.Names.length = n := ⟨_, rfl⟩
  rw [hnt] at rT hfew ⊢
  have Hnt := Lib.hid hnt
  clear hnt
  replace rT := Lib.hid rT
  have HSz : Hid (ForestR.sz ⟨ts⟩ ≤ 1048576) := Lib.hid (by rw [sz_Forest]; exact Nat.le_trans HSm.out (by omega))
  have HSz2 : Hid (TokenR.sz t ≤ 1048576) := Lib.hid (Nat.le_trans HTsz.out (by omega))
  obtain ⟨mc, hmc⟩ : ∃ m, MakeC ts t = m := ⟨_, rfl⟩
  obtain ⟨us, hus⟩ : ∃ u, MakeT ts t = u := ⟨_, rfl⟩
  have Hmc := Lib.hid hmc
  have Hus := Lib.hid hus
  have HUsz : Hid (ForestR.sz ⟨us⟩ ≤ 1048576) := Lib.hid (by rw [sz_Forest, ← hus]; exact Nat.le_trans (MakeT_sz ts t) (by have := HSm.out; omega))
  have hmcne : (mc != mc) = false := by simp
  clear hmc hus
  have hbX : Below w1.heap.size w1 ((w1.alloc (.cells #[.slice A N c] 26)).alloc (.cells #[.int .i64 t.Id, .int .i64 t.Parent, .slice At nt ct, .int .i64 t.Made, .int .i64 t.Ends, .int .i64 t.Limit, .int .i64 t.Uses] 35)) := by (repeat (first | (with_reducible exact Below.refl _ _) | (with_reducible assumption) | ((with_reducible refine Below.setCell ?_ ?_ _); rotate_left; focus (first | omega | (simp; done) | (simp; omega))) | ((with_reducible refine Below.alloc ?_ ?_ _); rotate_left; focus (first | omega | (simp; done) | (simp; omega))) | (with_reducible refine Below.drew ?_) | (with_reducible refine below_drewN ?_ _) | (refine Below.trans ?_ (Below.mono (by with_reducible assumption) (by (first | omega | (simp; done) | (simp; omega)))))))
  have B3 : Blk ((w1.alloc (.cells #[.slice A N c] 26)).alloc (.cells #[.int .i64 t.Id, .int .i64 t.Parent, .slice At nt ct, .int .i64 t.Made, .int .i64 t.Ends, .int .i64 t.Limit, .int .i64 t.Uses] 35)) w1.heap.size 26 #[.slice A N c] := (Blk.new' rfl).alloc _
  have B4 : Blk ((w1.alloc (.cells #[.slice A N c] 26)).alloc (.cells #[.int .i64 t.Id, .int .i64 t.Parent, .slice At nt ct, .int .i64 t.Made, .int .i64 t.Ends, .int .i64 t.Limit, .int .i64 t.Uses] 35)) (w1.heap.size + 1) 35 #[.int .i64 t.Id, .int .i64 t.Parent, .slice At nt ct, .int .i64 t.Made, .int .i64 t.Ends, .int .i64 t.Limit, .int .i64 t.Uses] := Blk.new' (by simp)
  replace hbw := hbw.trans (hbX.mono hbw.size)
  replace rF := Lib.hid (rF.out.keep hbX hbX.size)
  replace rT := Lib.hid (rT.out.keep hbX hbX.size)
  have HsX : Hid (w1.heap.size + 2 = ((w1.alloc (.cells #[.slice A N c] 26)).alloc (.cells #[.int .i64 t.Id, .int .i64 t.Parent, .slice At nt ct, .int .i64 t.Made, .int .i64 t.Ends, .int .i64 t.Limit, .int .i64 t.Uses] 35)).heap.size) := Lib.hid (by simp)
  go_upto_region 4 with fail
  generalize ((w1.alloc (.cells #[.slice A N c] 26)).alloc (.cells #[.int .i64 t.Id, .int .i64 t.Parent, .slice At nt ct, .int .i64 t.Made, .int .i64 t.Ends, .int .i64 t.Limit, .int .i64 t.Uses] 35)) = v0 at *
  have hsX := HsX.out
  obtain ⟨b4, hb4⟩ : ∃ b, b = w1.heap.size + 1 := ⟨_, rfl⟩
  obtain ⟨b3, hb3⟩ : ∃ b, b = w1.heap.size := ⟨_, rfl⟩
  rw [← hb4] at B4 ⊢
  rw [← hb3] at B3 ⊢
  have hl3 : b3 < b4 := by omega
  have hl4 : b4 < v0.heap.size := by omega
  clear hb3 hb4 HsX hsX hbX
  have hc3 := B3.cell
  have hc4 := B4.cell
  have HC := spec_MakeTokenL [.slice A N c] ⟨ts⟩ [.int .i64 t.Id, .int .i64 t.Parent, .slice At nt ct, .int .i64 t.Made, .int .i64 t.Ends, .int .i64 t.Limit, .int .i64 t.Uses] t v0 (of_rd_Forest (x := ⟨ts⟩) rF.out) (of_rd_Token (x := t) rT.out) HSz.out HSz2.out
  dsimp only at HC
  rw [Hmc.out, Hus.out] at HC
  go_wp2_with fail
  refine (HC).mono ?_
  rintro e v1 ⟨cs', rfl, hoQ, hb⟩
  obtain ⟨q0, S0, rfl, hq, hs⟩ := own_Forest hoQ
  obtain ⟨AW, cW, rfl⟩ := hq.form
  have rW := hq.rd (fun g hg => (hs g hg).2)
  clear hoQ hq hs S0
  dsimp only at rW ⊢
  obtain ⟨nW, hnW⟩ : ∃ n, us.length = n := ⟨_, rfl⟩
  rw [hnW] at rW ⊢
  have HnW := Lib.hid hnW
  have hnW2 : ((nW : Int) != (nW : Int)) = false := by simp
  clear hnW HC
  replace hbw := hbw.trans (hb.mono hbw.size)
  replace rF := Lib.hid (rF.out.keep hb hb.size)
  replace rT := Lib.hid (rT.out.keep hb hb.size)
  replace B3 := B3.keep hb
  replace B4 := B4.keep hb
  clear hb rW
  have hbX : Below v1.heap.size v1 (v1.alloc (.cells #[.slice AW nW cW] 26)) := by (repeat (first | (with_reducible exact Below.refl _ _) | (with_reducible assumption) | ((with_reducible refine Below.setCell ?_ ?_ _); rotate_left; focus (first | omega | (simp; done) | (simp; omega))) | ((with_reducible refine Below.alloc ?_ ?_ _); rotate_left; focus (first | omega | (simp; done) | (simp; omega))) | (with_reducible refine Below.drew ?_) | (with_reducible refine below_drewN ?_ _) | (refine Below.trans ?_ (Below.mono (by with_reducible assumption) (by (first | omega | (simp; done) | (simp; omega)))))))
  have BX : Blk (v1.alloc (.cells #[.slice AW nW cW] 26)) v1.heap.size 26 #[.slice AW nW cW] := Blk.new' rfl
  have hsX : Hid (v1.heap.size + 1 = (v1.alloc (.cells #[.slice AW nW cW] 26)).heap.size) := Lib.hid (by simp)
  replace hbw := hbw.trans (hbX.mono hbw.size)
  replace rF := Lib.hid (rF.out.keep hbX hbX.size)
  replace rT := Lib.hid (rT.out.keep hbX hbX.size)
  replace B3 := B3.keep hbX
  replace B4 := B4.keep hbX
  clear hc3
  clear hc4
  go_upto_region 5 with fail
  generalize (v1.alloc (.cells #[.slice AW nW cW] 26)) = v2 at *
  obtain ⟨b5, hbe⟩ : ∃ b, b = v1.heap.size := ⟨_, rfl⟩
  rw [← hbe] at BX ⊢
  have hlX := hsX.out
  rw [← hbe] at hlX
  have hl5 : b5 < v2.heap.size := by omega
  clear hbe hbX hsX hlX
  have B5 := BX
  clear BX
  have hc3 := B3.cell
  have hc4 := B4.cell
  have hc5 := B5.cell
  have HC := impl_MakeTokenL [.slice A N c] ⟨ts⟩ [.int .i64 t.Id, .int .i64 t.Parent, .slice At nt ct, .int .i64 t.Made, .int .i64 t.Ends, .int .i64 t.Limit, .int .i64 t.Uses] t v2 (of_rd_Forest (x := ⟨ts⟩) rF.out) (of_rd_Token (x := t) rT.out) HSz.out HSz2.out
  dsimp only at HC
  rw [Hmc.out, Hus.out] at HC
  go_wp2_with fail
  refine (HC).mono ?_
  rintro e v3 ⟨cs', rfl, hoQ, hb⟩
  obtain ⟨q0, S0, rfl, hq, hs⟩ := own_Forest hoQ
  obtain ⟨AN, cN, rfl⟩ := hq.form
  have rN := hq.rd (fun g hg => (hs g hg).2)
  clear hoQ hq hs S0
  dsimp only at rN ⊢
  rw [HnW.out] at rN ⊢
  replace rN := Lib.hid rN
  clear HC
  replace hbw := hbw.trans (hb.mono hbw.size)
  replace rF := Lib.hid (rF.out.keep hb hb.size)
  replace rT := Lib.hid (rT.out.keep hb hb.size)
  replace B3 := B3.keep hb
  replace B4 := B4.keep hb
  replace B5 := B5.keep hb
  clear hb
  clear rF
  clear B3
  have hbX : Below v3.heap.size v3 (v3.alloc (.cells #[.slice AN nW cN] 26)) := by (repeat (first | (with_reducible exact Below.refl _ _) | (with_reducible assumption) | ((with_reducible refine Below.setCell ?_ ?_ _); rotate_left; focus (first | omega | (simp; done) | (simp; omega))) | ((with_reducible refine Below.alloc ?_ ?_ _); rotate_left; focus (first | omega | (simp; done) | (simp; omega))) | (with_reducible refine Below.drew ?_) | (with_reducible refine below_drewN ?_ _) | (refine Below.trans ?_ (Below.mono (by with_reducible assumption) (by (first | omega | (simp; done) | (simp; omega)))))))
  have BX : Blk (v3.alloc (.cells #[.slice AN nW cN] 26)) v3.heap.size 26 #[.slice AN nW cN] := Blk.new' rfl
  have hsX : Hid (v3.heap.size + 1 = (v3.alloc (.cells #[.slice AN nW cN] 26)).heap.size) := Lib.hid (by simp)
  replace hbw := hbw.trans (hbX.mono hbw.size)
  replace rT := Lib.hid (rT.out.keep hbX hbX.size)
  replace B4 := B4.keep hbX
  replace B5 := B5.keep hbX
  replace rN := Lib.hid (rN.out.keep hbX hbX.size)
  clear hc3
  clear hc4
  clear hc5
  go_upto_region 6 with fail
  generalize (v3.alloc (.cells #[.slice AN nW cN] 26)) = v4 at *
  obtain ⟨b7, hbe⟩ : ∃ b, b = v3.heap.size := ⟨_, rfl⟩
  rw [← hbe] at BX ⊢
  have hlX := hsX.out
  rw [← hbe] at hlX
  have hl7 : b7 < v4.heap.size := by omega
  clear hbe hbX hsX hlX
  have B7 := BX
  clear BX
  have hc4 := B4.cell
  have hc5 := B5.cell
  have hc7 := B7.cell
  by_cases hm0 : mc = 0
  rotate_left
  · have hm1 : (mc != 0) = true := by simpa using hm0
    have hbz := hbw
    go_wp2
    go_ret
    exact ⟨rfl, hbz⟩
  subst hm0
  obtain ⟨hf, hk, hl, hp, hn, hmt⟩ := make_parts Hmc.out
  have he : us = ts ++ [t] := by rw [← Hus.out]; exact hmt
  subst he
  obtain ⟨-, hfo, hft⟩ := snoc_find (snoc_ok hf hk hl hp hn)
  obtain ⟨hp1, hp2, hp3, hp4⟩ := tokOk_parts hk
  have HRn := Lib.hid (fun (h : endsNew t t.Made (1 + a) ≤ 1000000000) => life_renew Hmc.out (by omega) (by omega) h)
  have HRsz : Hid (ForestR.sz ⟨RenewT (ts ++ [t]) t.Id t.Made (1 + a)⟩ ≤ 1048576) := Lib.hid (by rw [sz_Forest]; exact Nat.le_trans (life_renew_sz Hmc.out) (by have := HSm.out; omega))
  have HH0 := Lib.hid (lifeH_zero ts t)
  have HHu := Lib.hid (fun (k : Nat) (h1 : (k : Int) < t.Uses) (h2 : t.Uses < 20) => lifeH_use Hmc.out h1 h2)
  have HHe := Lib.hid (fun (k : Nat) (h1 : k = 0 ∨ (k : Int) ≤ t.Uses ∧ t.Uses < 20) (h2 : ¬ ((k : Int) < t.Uses ∧ t.Uses < 20)) => lifeH_end Hmc.out h1 h2)
  have HHz : Hid (∀ k, ForestR.sz ⟨lifeH ts t k⟩ ≤ 1048576) := Lib.hid (fun k => by rw [sz_Forest]; exact Nat.le_trans (lifeH_sz Hmc.out k) (by have := HSm.out; omega))
  have Hfo := Lib.hid hfo
  have Hft := Lib.hid hft
  have hu0 := hp4.1
  have hu1 := hp4.2
  have hm0 := hp1.1
  have hm1 := hp1.2
  clear hf hk hl hp hn hmt Hmc Hus hfo hft hp1 hp2 hp4 hmcne
  generalize lifeH ts t = H at *
  have HSzU := HUsz
  have HC := impl_FindTokenL [.slice AN nW cN] ⟨ts ++ [t]⟩ t.Id v4 (of_rd_Forest (x := ⟨ts ++ [t]⟩) rN.out) HUsz.out
  dsimp only at HC
  rw [Hfo.out, Hft.out] at HC
  clear HSzU
  go_wp2_with fail
  refine (HC).mono ?_
  rintro e v5 ⟨cs', rfl, hoQ, hb⟩
  obtain ⟨q0, S0, rfl, hq, hs⟩ := own_Token hoQ
  obtain ⟨AX, cX, rfl⟩ := hq.form
  have rX := hq.rd (fun g hg => (hs g hg).2)
  clear hoQ hq hs S0
  rw [Hnt.out] at rX ⊢
  replace rX := Lib.hid rX
  clear HC
  replace hbw := hbw.trans (hb.mono hbw.size)
  replace rT := Lib.hid (rT.out.keep hb hb.size)
  replace B4 := B4.keep hb
  replace B5 := B5.keep hb
  replace rN := Lib.hid (rN.out.keep hb hb.size)
  replace B7 := B7.keep hb
  clear hb
  clear B5
  have hbX : Below v5.heap.size v5 (v5.alloc (.cells #[.int .i64 t.Id, .int .i64 t.Parent, .slice AX nt cX, .int .i64 t.Made, .int .i64 t.Ends, .int .i64 t.Limit, .int .i64 t.Uses] 35)) := by (repeat (first | (with_reducible exact Below.refl _ _) | (with_reducible assumption) | ((with_reducible refine Below.setCell ?_ ?_ _); rotate_left; focus (first | omega | (simp; done) | (simp; omega))) | ((with_reducible refine Below.alloc ?_ ?_ _); rotate_left; focus (first | omega | (simp; done) | (simp; omega))) | (with_reducible refine Below.drew ?_) | (with_reducible refine below_drewN ?_ _) | (refine Below.trans ?_ (Below.mono (by with_reducible assumption) (by (first | omega | (simp; done) | (simp; omega)))))))
  have BX : Blk (v5.alloc (.cells #[.int .i64 t.Id, .int .i64 t.Parent, .slice AX nt cX, .int .i64 t.Made, .int .i64 t.Ends, .int .i64 t.Limit, .int .i64 t.Uses] 35)) v5.heap.size 35 #[.int .i64 t.Id, .int .i64 t.Parent, .slice AX nt cX, .int .i64 t.Made, .int .i64 t.Ends, .int .i64 t.Limit, .int .i64 t.Uses] := Blk.new' rfl
  have hsX : Hid (v5.heap.size + 1 = (v5.alloc (.cells #[.int .i64 t.Id, .int .i64 t.Parent, .slice AX nt cX, .int .i64 t.Made, .int .i64 t.Ends, .int .i64 t.Limit, .int .i64 t.Uses] 35)).heap.size) := Lib.hid (by simp)
  replace hbw := hbw.trans (hbX.mono hbw.size)
  replace rT := Lib.hid (rT.out.keep hbX hbX.size)
  replace B4 := B4.keep hbX
  replace rN := Lib.hid (rN.out.keep hbX hbX.size)
  replace B7 := B7.keep hbX
  replace rX := Lib.hid (rX.out.keep hbX hbX.size)
  clear hc4
  clear hc5
  clear hc7
  go_upto_region 11 with fail
  generalize (v5.alloc (.cells #[.int .i64 t.Id, .int .i64 t.Parent, .slice AX nt cX, .int .i64 t.Made, .int .i64 t.Ends, .int .i64 t.Limit, .int .i64 t.Uses] 35)) = v6 at *
  obtain ⟨b9, hbe⟩ : ∃ b, b = v5.heap.size := ⟨_, rfl⟩
  rw [← hbe] at BX ⊢
  have hlX := hsX.out
  rw [← hbe] at hlX
  have hl9 : b9 < v6.heap.size := by omega
  clear hbe hbX hsX hlX
  have B9 := BX
  clear BX
  have hc4 := B4.cell
  have hc7 := B7.cell
  have hc9 := B9.cell
  have hne1 : (t.Parent != t.Parent) = false := by simp
  have hne2 : (t.Ends != t.Ends) = false := by simp
  have HC := laws_sameTexts AX At cX ct nt t.Names v6 (rd_StringS rX.out).2.1 (rd_StringS rT.out).2.1 Hnt.out (by omega)
  go_wp2_with fail
  refine (HC).mono ?_
  rintro e v7 ⟨rfl, hb⟩
  replace hbw := hbw.trans (hb.mono hbw.size)
  replace rT := Lib.hid (rT.out.keep hb hb.size)
  replace B4 := B4.keep hb
  replace rN := Lib.hid (rN.out.keep hb hb.size)
  replace B7 := B7.keep hb
  replace rX := Lib.hid (rX.out.keep hb hb.size)
  replace B9 := B9.keep hb
  clear hb HC
  clear rX
  clear rT
  clear B9
  clear hc9
  clear hc4
  clear hc7
  have hc4 := B4.cell
  have hc7 := B7.cell
  clear hne1 hne2
  go_wp2_with fail
  refine (HAt.out _ hbw).mono ?_
  rintro e w' ⟨rfl, rfl⟩
  have hw1 : IntKind.i64.wrap (1 + a) = 1 + a := IntWalk.i64_in _ (by omega)
  have HC := impl_RenewTokenL [.slice AN nW cN] ⟨ts ++ [t]⟩ t.Id t.Made (1 + a) v7 (of_rd_Forest (x := ⟨ts ++ [t]⟩) rN.out) HUsz.out
  dsimp only at HC
  obtain ⟨rc, hrc⟩ : ∃ r, RenewC (ts ++ [t]) t.Id t.Made (1 + a) = r := ⟨_, rfl⟩
  obtain ⟨rs, hrs⟩ : ∃ r, RenewT (ts ++ [t]) t.Id t.Made (1 + a) = r := ⟨_, rfl⟩
  rw [hrc, hrs] at HC
  have Hrc := Lib.hid hrc
  have Hrs := Lib.hid hrs
  rw [hrs] at HRsz
  clear hrc hrs
  go_wp2_with fail
  refine (HC).mono ?_
  rintro e v8 ⟨cs', rfl, hoQ, hb⟩
  obtain ⟨q0, S0, rfl, hq, hs⟩ := own_Forest hoQ
  obtain ⟨AR, cR, rfl⟩ := hq.form
  have rR := hq.rd (fun g hg => (hs g hg).2)
  clear hoQ hq hs S0
  dsimp only at rR ⊢
  obtain ⟨nR, hnR⟩ : ∃ n, rs.length = n := ⟨_, rfl⟩
  rw [hnR] at rR ⊢
  clear hnR HC
  replace rR := Lib.hid rR
  replace hbw := hbw.trans (hb.mono hbw.size)
  replace B4 := B4.keep hb
  replace rN := Lib.hid (rN.out.keep hb hb.size)
  replace B7 := B7.keep hb
  clear hb
  have hbX : Below v8.heap.size v8 (v8.alloc (.cells #[.slice AR nR cR] 26)) := by (repeat (first | (with_reducible exact Below.refl _ _) | (with_reducible assumption) | ((with_reducible refine Below.setCell ?_ ?_ _); rotate_left; focus (first | omega | (simp; done) | (simp; omega))) | ((with_reducible refine Below.alloc ?_ ?_ _); rotate_left; focus (first | omega | (simp; done) | (simp; omega))) | (with_reducible refine Below.drew ?_) | (with_reducible refine below_drewN ?_ _) | (refine Below.trans ?_ (Below.mono (by with_reducible assumption) (by (first | omega | (simp; done) | (simp; omega)))))))
  have BX : Blk (v8.alloc (.cells #[.slice AR nR cR] 26)) v8.heap.size 26 #[.slice AR nR cR] := Blk.new' rfl
  have hsX : Hid (v8.heap.size + 1 = (v8.alloc (.cells #[.slice AR nR cR] 26)).heap.size) := Lib.hid (by simp)
  replace hbw := hbw.trans (hbX.mono hbw.size)
  replace B4 := B4.keep hbX
  replace rN := Lib.hid (rN.out.keep hbX hbX.size)
  replace B7 := B7.keep hbX
  replace rR := Lib.hid (rR.out.keep hbX hbX.size)
  clear hc4
  clear hc7
  go_upto_region 15 with fail
  generalize (v8.alloc (.cells #[.slice AR nR cR] 26)) = v9 at *
  obtain ⟨b12, hbe⟩ : ∃ b, b = v8.heap.size := ⟨_, rfl⟩
  rw [← hbe] at BX ⊢
  have hlX := hsX.out
  rw [← hbe] at hlX
  have hl12 : b12 < v9.heap.size := by omega
  clear hbe hbX hsX hlX
  have B12 := BX
  clear BX
  have hc4 := B4.cell
  have hc7 := B7.cell
  have hc12 := B12.cell
  have HC := impl_FindTokenL [.slice AR nR cR] ⟨rs⟩ t.Id v9 (of_rd_Forest (x := ⟨rs⟩) rR.out) HRsz.out
  dsimp only at HC
  have HRn2 : Hid (endsNew t t.Made (1 + a) ≤ 1000000000 → rc = 0 ∧ (findTok rs t.Id).Ends = endsNew t t.Made (1 + a)) := Lib.hid (fun h => by have h2 := HRn.out h; rw [Hrc.out, Hrs.out] at h2; exact ⟨h2.1, by rw [h2.2.1]; exact h2.2.2⟩)
  generalize findTok rs t.Id = y at *
  generalize findOk rs t.Id = yb at *
  clear HRn Hrc Hrs
  go_wp2_with fail
  refine (HC).mono ?_
  rintro e v10 ⟨cs', rfl, hoQ, hb⟩
  obtain ⟨q0, S0, rfl, hq, hs⟩ := own_Token hoQ
  obtain ⟨AY, cY, rfl⟩ := hq.form
  have rY := hq.rd (fun g hg => (hs g hg).2)
  clear hoQ hq hs S0
  obtain ⟨ny, hny⟩ : ∃ n, y.Names.length = n := ⟨_, rfl⟩
  rw [hny] at rY ⊢
  clear hny HC rY
  replace hbw := hbw.trans (hb.mono hbw.size)
  replace B4 := B4.keep hb
  replace rN := Lib.hid (rN.out.keep hb hb.size)
  replace B7 := B7.keep hb
  replace rR := Lib.hid (rR.out.keep hb hb.size)
  replace B12 := B12.keep hb
  clear hb
  clear rR
  clear B12
  clear hc12
  have hbX : Below v10.heap.size v10 (v10.alloc (.cells #[.int .i64 y.Id, .int .i64 y.Parent, .slice AY ny cY, .int .i64 y.Made, .int .i64 y.Ends, .int .i64 y.Limit, .int .i64 y.Uses] 35)) := by (repeat (first | (with_reducible exact Below.refl _ _) | (with_reducible assumption) | ((with_reducible refine Below.setCell ?_ ?_ _); rotate_left; focus (first | omega | (simp; done) | (simp; omega))) | ((with_reducible refine Below.alloc ?_ ?_ _); rotate_left; focus (first | omega | (simp; done) | (simp; omega))) | (with_reducible refine Below.drew ?_) | (with_reducible refine below_drewN ?_ _) | (refine Below.trans ?_ (Below.mono (by with_reducible assumption) (by (first | omega | (simp; done) | (simp; omega)))))))
  have BX : Blk (v10.alloc (.cells #[.int .i64 y.Id, .int .i64 y.Parent, .slice AY ny cY, .int .i64 y.Made, .int .i64 y.Ends, .int .i64 y.Limit, .int .i64 y.Uses] 35)) v10.heap.size 35 #[.int .i64 y.Id, .int .i64 y.Parent, .slice AY ny cY, .int .i64 y.Made, .int .i64 y.Ends, .int .i64 y.Limit, .int .i64 y.Uses] := Blk.new' rfl
  have hsX : Hid (v10.heap.size + 1 = (v10.alloc (.cells #[.int .i64 y.Id, .int .i64 y.Parent, .slice AY ny cY, .int .i64 y.Made, .int .i64 y.Ends, .int .i64 y.Limit, .int .i64 y.Uses] 35)).heap.size) := Lib.hid (by simp)
  replace hbw := hbw.trans (hbX.mono hbw.size)
  replace B4 := B4.keep hbX
  replace rN := Lib.hid (rN.out.keep hbX hbX.size)
  replace B7 := B7.keep hbX
  clear hc4
  clear hc7
  go_upto_region 16 with fail
  generalize (v10.alloc (.cells #[.int .i64 y.Id, .int .i64 y.Parent, .slice AY ny cY, .int .i64 y.Made, .int .i64 y.Ends, .int .i64 y.Limit, .int .i64 y.Uses] 35)) = v11 at *
  obtain ⟨b14, hbe⟩ : ∃ b, b = v10.heap.size := ⟨_, rfl⟩
  rw [← hbe] at BX ⊢
  have hlX := hsX.out
  rw [← hbe] at hlX
  have hl14 : b14 < v11.heap.size := by omega
  clear hbe hbX hsX hlX
  have B14 := BX
  clear BX
  have hc4 := B4.cell
  have hc7 := B7.cell
  have hc14 := B14.cell
  have hw2 : IntKind.i64.wrap (t.Made + (1 + a)) = t.Made + (1 + a) := IntWalk.i64_in _ (by omega)
  go_upto_region 17 with fail
  obtain ⟨en, hen⟩ : ∃ e, endsNew t t.Made (1 + a) = e := ⟨_, rfl⟩
  rw [hen] at HRn2
  obtain ⟨lb, hlb⟩ : ∃ l, (t.Limit != 0 && decide (t.Limit < t.Made + (1 + a))) = l := ⟨_, rfl⟩
  have HEt := Lib.hid (fun h : lb = true => (by rw [← hen]; unfold endsNew; rw [hlb, h] : en = t.Limit))
  have HEf := Lib.hid (fun h : lb = false => (by rw [← hen]; unfold endsNew; rw [hlb, h] : en = t.Made + (1 + a)))
  have HLb := Lib.hid hlb
  clear hen hlb
  go_cut [119] (fun s119 wx => s119 = .bool lb ∧ wx = v11)
  case first =>
    cases hl0 : t.Limit != 0
    · rw [hl0, Bool.false_and] at HLb
      have HL := Lib.hid HLb.out.symm
      go_wp2_with fail
      go_meet
      exact ⟨by rw [HL.out], rfl⟩
    · cases hl1 : decide (t.Limit < t.Made + (1 + a))
      · rw [hl0, hl1, Bool.true_and] at HLb
        have HL := Lib.hid HLb.out.symm
        go_wp2_with fail
        go_meet
        exact ⟨by rw [HL.out], rfl⟩
      · rw [hl0, hl1, Bool.true_and] at HLb
        have HL := Lib.hid HLb.out.symm
        go_wp2_with fail
        go_meet
        exact ⟨by rw [HL.out], rfl⟩
  case rest =>
  obtain ⟨rfl, hwx⟩ := hcut
  have hwx2 := hwx.symm
  subst hwx2
  clear hwx HLb
  go_upto_if 119 with fail
  go_cut [16] (fun s16 wx => s16 = .int .i64 en ∧ wx = v11)
  case first =>
    cases lb
    · have e1 := Lib.hid (HEf.out rfl)
      clear HEf HEt
      go_wp2_with fail
      go_meet
      exact ⟨by rw [e1.out], rfl⟩
    · have e1 := Lib.hid (HEt.out rfl)
      clear HEf HEt
      go_wp2_with fail
      go_meet
      exact ⟨by rw [e1.out], rfl⟩
  case rest =>
  obtain ⟨rfl, hwx⟩ := hcut
  have hwx2 := hwx.symm
  subst hwx2
  clear hwx HEt HEf
  go_upto_region 19 with fail
  go_cut [133] (fun s133 wx => s133 = .bool false ∧ wx = v11)
  case first =>
    by_cases hen : en ≤ 1000000000
    · obtain ⟨e1, e2⟩ := HRn2.out hen
      have e3 : (rc != 0) = false := by rw [e1]; rfl
      have e4 : (y.Ends != en) = false := by rw [e2]; simp
      clear e1 e2
      go_wp2_with fail
      go_meet
      exact ⟨rfl, rfl⟩
    · go_wp2_with fail
      go_meet
      exact ⟨rfl, rfl⟩
  case rest =>
  obtain ⟨rfl, hwx⟩ := hcut
  have hwx2 := hwx.symm
  subst hwx2
  clear hwx HRn2 hw1 hw2
  clear B14
  clear hc14
  have hb4N := B4.lt
  have hwN := hbw.size
  have hbX : Below v11.heap.size v11 (v11.alloc (.cells #[.slice AN nW cN] 26)) := by (repeat (first | (with_reducible exact Below.refl _ _) | (with_reducible assumption) | ((with_reducible refine Below.setCell ?_ ?_ _); rotate_left; focus (first | omega | (simp; done) | (simp; omega))) | ((with_reducible refine Below.alloc ?_ ?_ _); rotate_left; focus (first | omega | (simp; done) | (simp; omega))) | (with_reducible refine Below.drew ?_) | (with_reducible refine below_drewN ?_ _) | (refine Below.trans ?_ (Below.mono (by with_reducible assumption) (by (first | omega | (simp; done) | (simp; omega)))))))
  have BX : Blk (v11.alloc (.cells #[.slice AN nW cN] 26)) v11.heap.size 26 #[.slice AN nW cN] := Blk.new' rfl
  have hsX : Hid (v11.heap.size + 1 = (v11.alloc (.cells #[.slice AN nW cN] 26)).heap.size) := Lib.hid (by simp)
  go_upto_region 22 with fail
  replace hbw := hbw.trans (hbX.mono hbw.size)
  replace B4 := B4.keep hbX
  replace rN := Lib.hid (rN.out.keep hbX hbX.size)
  replace B7 := B7.keep hbX
  clear hc4
  clear hc7
  generalize (v11.alloc (.cells #[.slice AN nW cN] 26)) = v12 at *
  obtain ⟨b17, hbe⟩ : ∃ b, b = v11.heap.size := ⟨_, rfl⟩
  rw [← hbe] at BX ⊢
  have hlX := hsX.out
  rw [← hbe] at hlX
  have hl17 : b17 < v12.heap.size := by omega
  have h417 : b4 < b17 := by omega
  have hw17 : w.heap.size ≤ b17 := by omega
  clear hbe hbX hsX hlX
  have B17 := BX
  clear BX
  have hc4 := B4.cell
  have hc17 := B17.cell
  clear B7
  go_wp2_with fail
  have hln0 : Hid ((H 0).length = nW) := Lib.hid (by rw [HH0.out]; exact HnW.out)
  have hr0 : Hid (SlRd TokenR v12 v12.heap.size (.slice AN nW cN) (H 0)) := Lib.hid (by rw [HH0.out]; exact rN.out)
  clear rN HnW hnW2 HUsz HRsz hc4 hc17
  go_loopw [18] (fun i wr => ∃ (k : Nat) (AG : Option Addr) (nG cG : Nat), i = .int .i64 k ∧ k ≤ 20 ∧ (k = 0 ∨ (k : Int) ≤ t.Uses ∧ t.Uses < 20) ∧ Blk wr b17 26 #[.slice AG nG cG] ∧ Blk wr b4 35 #[.int .i64 t.Id, .int .i64 t.Parent, .slice At nt ct, .int .i64 t.Made, .int .i64 t.Ends, .int .i64 t.Limit, .int .i64 t.Uses] ∧ Hid (SlRd TokenR wr wr.heap.size (.slice AG nG cG) (H k)) ∧ Hid ((H k).length = nG) ∧ Below w.heap.size w wr) (fun i _ => 21 - (intOf i).toNat)
  case atStart => exact ⟨0, AN, nW, cN, rfl, by omega, Or.inl rfl, B17, B4, hr0, hln0, hbw⟩
  case round =>
    clear hr0 hln0 B17 B4 hbw
    obtain ⟨k, AG, nG, cG, rfl, hk20, hk, B17, B4, rG, hln, hbw⟩ := hrel
    have hc17 := B17.cell; have hc4 := B4.cell; have hf17 := B17.frozen; have hl17r := B17.lt
    by_cases hlt : (k : Int) < t.Uses ∧ t.Uses < 20
    · obtain ⟨hlt1, hlt2⟩ := hlt
      obtain ⟨hu1, hu2⟩ := HHu.out k hlt1 hlt2
      have HC := impl_UseTokenL [.slice AG nG cG] ⟨H k⟩ t.Id t.Made wr (of_rd_Forest (x := ⟨H k⟩) rG.out) (HHz.out k)
      dsimp only at HC
      rw [hu1, hu2] at HC
      clear hu1 hu2 hk
      go_wp2_with fail
      refine HC.mono ?_
      rintro e wa ⟨cs', rfl, hoQ, hb⟩
      obtain ⟨q0, S0, rfl, hq, hs⟩ := own_Forest hoQ
      obtain ⟨AU, cU, rfl⟩ := hq.form
      dsimp only at hq ⊢
      clear hoQ
      obtain ⟨nU, hnU⟩ : ∃ n, (H (k + 1)).length = n := ⟨_, rfl⟩
      rw [hnU] at hq ⊢
      have HnU := Lib.hid hnU
      have hbX : Below wa.heap.size wa (wa.alloc (.cells #[.slice AU nU cU] 26)) := by (repeat (first | (with_reducible exact Below.refl _ _) | (with_reducible assumption) | ((with_reducible refine Below.setCell ?_ ?_ _); rotate_left; focus (first | omega | (simp; done) | (simp; omega))) | ((with_reducible refine Below.alloc ?_ ?_ _); rotate_left; focus (first | omega | (simp; done) | (simp; omega))) | (with_reducible refine Below.drew ?_) | (with_reducible refine below_drewN ?_ _) | (refine Below.trans ?_ (Below.mono (by with_reducible assumption) (by (first | omega | (simp; done) | (simp; omega)))))))
      have BX : Blk (wa.alloc (.cells #[.slice AU nU cU] 26)) wa.heap.size 26 #[.slice AU nU cU] := Blk.new' rfl
      have hsz := hb.size
      have hbb := hb.trans (hbX.mono hsz)
      replace B17 := B17.keep hbb; replace B4 := B4.keep hbb
      replace hbw := hbw.trans (hbb.mono hbw.size)
      replace hq := hq.keep hbX
      have rU' := Lib.hid ((hq.out (out_set _ b17 0 (.slice AU nU cU)) (fun g hg h => by have := (hs g hg).1; omega)).rd (B := (World.setCell (wa.alloc (.cells #[.slice AU nU cU] 26)) ⟨b17, 0, none⟩ (.slice AU nU cU)).heap.size) (fun g hg => by have := (hs g hg).2; simp; omega))
      clear hc17 hc4 hf17 hnU HC hq hs S0
      go_upto_region 28 with fail
      generalize (wa.alloc (.cells #[.slice AU nU cU] 26)) = wb at *
      obtain ⟨b19, hbe⟩ : ∃ b, b = wa.heap.size := ⟨_, rfl⟩
      rw [← hbe] at BX ⊢
      have h1719 : b17 ≠ b19 := by omega
      clear hbe hbX
      have hc17 := B17.cell; have hf17 := B17.frozen; have hc19 := BX.cell; have hc4 := B4.cell
      have hbs : b17 < wb.heap.size := B17.lt
      have B17' := B17.set_ 0 (.slice AU nU cU)
      have B4' := B4.far (p := ⟨b17, 0, none⟩) (by simp; omega) (.slice AU nU cU)
      have hbw' := hbw.setCell (p := ⟨b17, 0, none⟩) (by simp; omega) (.slice AU nU cU)
      go_wp2_with fail
      go_roundw
      case rel => exact ⟨k + 1, AU, nU, cU, by go_num, by omega, Or.inr ⟨by omega, hlt2⟩, B17', B4', rU', HnU, hbw'⟩
      case measure => simp [intOf]; omega
    · have he := HHe.out k hk hlt
      have HC := impl_FindTokenL [.slice AG nG cG] ⟨H k⟩ t.Id wr (of_rd_Forest (x := ⟨H k⟩) rG.out) (HHz.out k)
      dsimp only at HC
      rw [he] at HC
      generalize findTok (H k) t.Id = z at *
      clear he rG hln
      by_cases g1 : (k : Int) < t.Uses
      · have g2 : 20 ≤ t.Uses := by omega
        have h0 : (t.Uses == 0) = false := by have : t.Uses ≠ 0 := by omega
                                              simpa using this
        rw [h0, decide_eq_true g2] at HC
        clear hlt hk
        go_wp2_with fail
        refine HC.mono ?_
        rintro e wa ⟨cs', rfl, hoQ, hb⟩
        obtain ⟨q0, S0, rfl, hq, hs⟩ := own_Token hoQ
        obtain ⟨AZ, cZ, rfl⟩ := hq.form
        generalize z.Names.length = nz at *
        have B4' := B4.keep hb
        have hbz := hbw.trans (hb.mono hbw.size)
        have hbzs := hbz.size
        clear hc17 hf17 hc4
        have hc4 := B4'.cell; have hl4z := B4'.lt
        go_wp2
        go_ret
        exact ⟨ret_bool (by first | rfl | (simp; done) | (simp; omega)), hbz.alloc hbzs _⟩
      · by_cases e0 : t.Uses = 0
        · have h0 : (t.Uses == 0) = true := by simpa using e0
          rw [h0] at HC
          clear hlt hk e0
          go_wp2_with fail
          refine HC.mono ?_
          rintro e wa ⟨cs', rfl, hoQ, hb⟩
          obtain ⟨q0, S0, rfl, hq, hs⟩ := own_Token hoQ
          obtain ⟨AZ, cZ, rfl⟩ := hq.form
          generalize z.Names.length = nz at *
          have B4' := B4.keep hb
          have hbz := hbw.trans (hb.mono hbw.size)
          have hbzs := hbz.size
          clear hc17 hf17 hc4
          have hc4 := B4'.cell; have hl4z := B4'.lt
          go_wp2
          go_ret
          exact ⟨ret_bool (by first | rfl | (simp; done) | (simp; omega)), hbz.alloc hbzs _⟩
        · have h0 : (t.Uses == 0) = false := by simpa using e0
          have g2 : t.Uses < 20 := by omega
          rw [h0, decide_eq_false (by omega : ¬ 20 ≤ t.Uses)] at HC
          clear hlt hk e0
          go_wp2_with fail
          refine HC.mono ?_
          rintro e wa ⟨cs', rfl, hoQ, hb⟩
          obtain ⟨q0, S0, rfl, hq, hs⟩ := own_Token hoQ
          obtain ⟨AZ, cZ, rfl⟩ := hq.form
          generalize z.Names.length = nz at *
          have B4' := B4.keep hb
          have hbz := hbw.trans (hb.mono hbw.size)
          have hbzs := hbz.size
          clear hc17 hf17 hc4
          have hc4 := B4'.cell; have hl4z := B4'.lt
          go_wp2
          go_ret
          exact ⟨ret_bool (by first | rfl | (simp; done) | (simp; omega)), hbz.alloc hbzs _⟩
end Go.Proofs.Ytcfhnhhgnophhaa

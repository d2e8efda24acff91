/- FnSynced: the walk of the law. -/
import Derived.Test.YtndgaakfndokgaaPkSyn
import Derived.Test.YtndgaakfndokgaaAtLib
import Derived.Test.YtndgaakfndokgaaPkRecs
import Derived.Test.YtndgaakfndokgaaFrameL
import Derived.Test.YtndgaakfndokgaaPkLog
import Derived.Test.YtndgaakfndokgaaPkRead
set_option linter.unusedSimpArgs false
set_option linter.unusedVariables false
set_option maxRecDepth 20000
namespace Go.Proofs.Ytndgaakfndokgaa
open Go.RowKit
theorem recs_sz {ds : List RecD} {n : Nat} (h : ∀ d ∈ ds, RecordR.sz d.r ≤ 100000) (hn : ds.length ≤ n) : szList RecordR (ds.map RecD.r) ≤ 100001 * n := by
  have h1 : ∀ {ts : List RecD}, (∀ d ∈ ts, RecordR.sz d.r ≤ 100000) → ((ts.map RecD.r).map RecordR.sz).sum ≤ 100000 * ts.length := fun {ts} => by
    induction ts with
    | nil => intro _; simp
    | cons t ts ih =>
      intro h
      have h1 := h t (List.mem_cons_self ..)
      have h2 := ih (fun s hs => h s (List.mem_cons_of_mem _ hs))
      rw [List.map_cons, List.map_cons, List.sum_cons, List.length_cons, Nat.mul_succ]
      omega
  have h2 := h1 h
  unfold szList
  rw [List.length_map]
  omega
theorem frame_sz {r : Record} (h : encOk r = true) : RecordR.sz r ≤ (frameB r).length := by
  have h1 := decR_sz_le (encB r)
  rw [(dec_enc h).2] at h1
  have h2 := (frame_len h).1
  omega
theorem syn_sz : ∀ {rs : List Record}, (∀ r ∈ rs, encOk r = true) → szList RecordR rs ≤ 2 * (framesB rs).length
  | [], _ => by simp [szList]
  | r :: rs, h => by
    have h1 := frame_sz (h r (List.mem_cons_self ..))
    have h2 := syn_sz (rs := rs) (fun q hq => h q (List.mem_cons_of_mem _ hq))
    have h3 := frame_len (h r (List.mem_cons_self ..))
    rw [framesB_cons, List.length_append]
    unfold szList at h2 ⊢
    rw [List.map_cons, List.sum_cons, List.length_cons]
    omega
theorem read_sz {rs : List Record} (h : SynOk rs) (j : Nat) : szList RecordR (rs.take j) ≤ 80000 := by
  have h1 := syn_sz (fun r hr => h.enc r (List.mem_of_mem_take (i := j) hr))
  have h2 := synD_len rs j
  have h3 : (synD rs j).Safe = framesB (rs.take j) := rfl
  have h4 := h.len
  rw [h3] at h2
  omega
set_option maxHeartbeats 25600000 in
theorem law_FnSynced (v_code : Value) (code : List UInt8) (w : World) (hr_code : SlRd byteR w w.heap.size v_code code) :
    Calls Try.prog 4 #[v_code] w fun e w' => e = .returned (.bool true) ∧ Below w.heap.size w w' := by
  obtain ⟨i0, hi0, hI0, hI1, hI2⟩ := info_parts info_Record
  obtain ⟨A0, c0, rfl⟩ := SlRd.form hr_code
  obtain ⟨-, hrd, hcap1, hcap2⟩ := rd_ByteS hr_code
  have HBig := Lib.hid (fun (w' : World) => laws_big A0 code.length c0 w' (by omega))
  by_cases hbig : 1048576 < code.length
  · have hd : decide ((1048576 : Int) < (code.length : Int)) = true := by simp; omega
    rw [hd] at HBig
    go_enter Try.func4, Try.ntmps4
    go_wp2_with fail
    refine (HBig.out _).mono ?_
    rintro e w' ⟨rfl, rfl⟩
    go_wp2
    go_ret
    exact ⟨rfl, by (repeat (first | (with_reducible exact Below.refl _ _) | (with_reducible assumption) | ((with_reducible refine Below.setCell ?_ ?_ _); rotate_left; focus (first | omega | (simp; done) | (simp; omega))) | ((with_reducible refine Below.alloc ?_ ?_ _); rotate_left; focus (first | omega | (simp; done) | (simp; omega))) | (with_reducible refine Below.drew ?_) | (with_reducible refine below_drewN ?_ _) | (refine Below.trans ?_ (Below.mono (by with_reducible assumption) (by (first | omega | (simp; done) | (simp; omega)))))))⟩
  have hd : decide ((1048576 : Int) < (code.length : Int)) = false := by simp; omega
  rw [hd] at HBig
  have HAt := Lib.hid (fun (i : Nat) (hi : i ≤ 100) (w' : World) (hb : Below w.heap.size w w') => laws_at A0 c0 code i w' (hrd.keep hb hb.size) (by omega) (by omega))
  have HAlt := Lib.hid (fun (k : Int) (w' : World) (hb : Below w.heap.size w w') => laws_alt A0 c0 code k w' (hrd.keep hb hb.size) (by omega))
  have HAb := Lib.hid (fun i => atV_bd code i)
  generalize atV code = aV at *
  generalize code.length = n0 at *
  clear hrd hr_code hcap1 hcap2 hbig
  go_enter Try.func4, Try.ntmps4
  go_wp2_with fail
  refine (HBig.out _).mono ?_
  rintro e w' ⟨rfl, rfl⟩
  clear HBig
  have hbA : Below w.heap.size w ((w.alloc (.cells #[.slice none 0 0, .slice none 0 0] 41)).alloc (.cells #[] 27)) := by (repeat (first | (with_reducible exact Below.refl _ _) | (with_reducible assumption) | ((with_reducible refine Below.setCell ?_ ?_ _); rotate_left; focus (first | omega | (simp; done) | (simp; omega))) | ((with_reducible refine Below.alloc ?_ ?_ _); rotate_left; focus (first | omega | (simp; done) | (simp; omega))) | (with_reducible refine Below.drew ?_) | (with_reducible refine below_drewN ?_ _) | (refine Below.trans ?_ (Below.mono (by with_reducible assumption) (by (first | omega | (simp; done) | (simp; omega)))))))
  have B3 : Blk (w.alloc (.cells #[.slice none 0 0, .slice none 0 0] 41)) w.heap.size 41 #[.slice none 0 0, .slice none 0 0] := Blk.new' rfl
  have hsB : Hid (w.heap.size + 2 = ((w.alloc (.cells #[.slice none 0 0, .slice none 0 0] 41)).alloc (.cells #[] 27)).heap.size) := Lib.hid (by simp)
  have how : World.ownsRow ((w.alloc (.cells #[.slice none 0 0, .slice none 0 0] 41)).alloc (.cells #[] 27)) (w.heap.size + 1) 27 3 (.slice (some ⟨w.heap.size + 1, 0, none⟩) 0 0) 0 [] := by
    have h := World.ownsRow_lit (base := w.heap.size + 1) (size := 3) (e := 27) (w.alloc (.cells #[.slice none 0 0, .slice none 0 0] 41)) #[] 0 (by simp) (by simp [maxLen]) rfl
    simpa using h
  have S0 : SynS w.heap.size w ((w.alloc (.cells #[.slice none 0 0, .slice none 0 0] 41)).alloc (.cells #[] 27)) (some ⟨w.heap.size + 1, 0, none⟩) 0 [] (.slice none 0 0) (.slice none 0 0) (synD [] 0) := ⟨B3.alloc _, of_own_Disk (x := synD [] 0) (SlOwn.nil byteR _ _ (fun _ => False)) (SlOwn.nil byteR _ _ (fun _ => False)) (fun _ h => h.elim) (fun _ h => h.elim) (fun _ h => h.elim), how, fun d hd => by simp at hd, hbA, Nat.le_refl _⟩
  go_upto_region 5 with fail
  generalize ((w.alloc (.cells #[.slice none 0 0, .slice none 0 0] 41)).alloc (.cells #[] 27)) = wa at *
  obtain ⟨b3, hb3⟩ : ∃ b, b = w.heap.size := ⟨_, rfl⟩
  obtain ⟨bl, hbl⟩ : ∃ b, b = w.heap.size + 1 := ⟨_, rfl⟩
  rw [← hbl, ← hb3] at S0
  rw [← hbl, ← hb3]
  clear B3 how hbA
  have hz := hsB.out
  have ho0 : ∀ q, (Value.slice (some ⟨bl, 0, none⟩) 0 0).ownBlock = some q → q < wa.heap.size := fun q e => by have : bl = q := by simpa [Value.ownBlock] using e
                                                                                                               omega
  clear hb3 hbl hsB hz
  go_wp2_with fail
  refine (HAt.out 0 (by omega) _ S0.bw).mono ?_
  rintro e w' ⟨rfl, rfl⟩
  obtain ⟨a0, a1⟩ := HAb.out 0
  generalize aV 0 = x0 at *
  obtain ⟨n, hn1, hn2⟩ : ∃ n : Nat, Int.tmod x0 30 = n ∧ n < 30 := by
    have h1 := Int.tmod_nonneg (30 : Int) a0
    have h2 := Int.tmod_lt_of_pos x0 (show (0 : Int) < 30 by omega)
    exact ⟨(Int.tmod x0 30).toNat, by omega, by omega⟩
  have hn3 : x0 % 30 = n := by rw [← hn1, Int.tmod_eq_emod_of_nonneg a0]
  go_upto_region 6 with fail
  clear hn1 hn3 a0 a1
  have hok0 : SynOk (([] : List RecD).map RecD.r) := ⟨by simp, fun r hr => by simp at hr⟩
  go_wp2_with fail
  go_loopw [4, 6, 7] (fun t4 t6 t7 wr => ∃ (k sy : Nat) (A : Option Addr) (c : Nat) (ds : List RecD) (As : Option Addr) (ns cs : Nat) (Al : Option Addr) (nl cl : Nat), t4 = .slice A ds.length c ∧ t6 = .int .i64 sy ∧ t7 = .int .i64 k ∧ k ≤ n ∧ ds.length ≤ k ∧ sy ≤ ds.length ∧ Hid (SynOk (ds.map RecD.r)) ∧ SynS b3 w wr A c ds (.slice As ns cs) (.slice Al nl cl) (synD (ds.map RecD.r) sy)) (fun _ _ t7 _ => n - (intOf t7).toNat)
  case atStart => exact ⟨0, 0, some ⟨bl, 0, none⟩, 0, [], none, 0, 0, none, 0, 0, rfl, rfl, rfl, Nat.zero_le _, Nat.le_refl _, Nat.le_refl _, Lib.hid hok0, S0⟩
  case round =>
    clear S0 ho0 hok0
    obtain ⟨k, sy, A, c, ds, As, ns, cs, Al, nl, cl, rfl, rfl, rfl, hk, hdk, hsy, HOk, S⟩ := hrel
    by_cases hlt : k < n
    · have hltI : (k : Int) < (n : Int) := by omega
      go_wp2_with fail
      refine (HAlt.out k _ S.bw).mono ?_
      rintro e w2 ⟨Ay, cy, ys, rfl, hyl, hry, hb⟩
      replace S := S.keep hb
      clear hb
      go_wp2_with fail
      refine (spec_DrawRecordOk Ay cy ys w2 hry (by omega)).mono ?_
      rintro e w4 ⟨d, rfl, hI, hb⟩
      have hL3 : b3 < w2.heap.size := S.b.lt
      have hLo : ∀ q, (Value.slice A ds.length c).ownBlock = some q → q < w2.heap.size := fun q e => (S.ow.lt q e).2
      replace S := S.keep hb
      have hw24 := hb.size
      clear hb hry hyl
      generalize w2.heap.size = lo at *
      have HSz := Lib.hid (Nat.le_trans hI.sz (by omega : 100000 ≤ 1048576))
      have hbX : Below w4.heap.size w4 (w4.alloc (.cells #[.int .i64 d.k, .slice d.A1 d.xs.length d.c1, .slice d.A2 d.ss.length d.c2] 27)) := by (repeat (first | (with_reducible exact Below.refl _ _) | (with_reducible assumption) | ((with_reducible refine Below.setCell ?_ ?_ _); rotate_left; focus (first | omega | (simp; done) | (simp; omega))) | ((with_reducible refine Below.alloc ?_ ?_ _); rotate_left; focus (first | omega | (simp; done) | (simp; omega))) | (with_reducible refine Below.drew ?_) | (with_reducible refine below_drewN ?_ _) | (refine Below.trans ?_ (Below.mono (by with_reducible assumption) (by (first | omega | (simp; done) | (simp; omega)))))))
      have BX : Blk (w4.alloc (.cells #[.int .i64 d.k, .slice d.A1 d.xs.length d.c1, .slice d.A2 d.ss.length d.c2] 27)) w4.heap.size 27 #[.int .i64 d.k, .slice d.A1 d.xs.length d.c1, .slice d.A2 d.ss.length d.c2] := Blk.new' rfl
      replace S := S.keep hbX
      replace hI := hI.keep hbX
      have hb34 : b3 < w4.heap.size := by omega
      go_upto_region 11 with fail
      generalize (w4.alloc (.cells #[.int .i64 d.k, .slice d.A1 d.xs.length d.c1, .slice d.A2 d.ss.length d.c2] 27)) = w5 at *
      obtain ⟨b8, hb8⟩ : ∃ b, b = w4.heap.size := ⟨_, rfl⟩
      rw [← hb8] at BX ⊢
      have hb8l : b3 < b8 := by omega
      clear hb8 hbX
      have hc8 := BX.cell
      have hRd := of_rd_Record (x := d.r) hI.rd1 hI.rd2
      have HC := spec_FrameRecordL [.int .i64 d.k, .slice d.A1 d.xs.length d.c1, .slice d.A2 d.ss.length d.c2] d.r w5 hRd HSz.out
      obtain ⟨eo, heo⟩ : ∃ b, encOk d.r = b := ⟨_, rfl⟩
      rw [heo] at HC
      have HEo := Lib.hid heo
      clear hRd heo
      obtain ⟨nf, hnf⟩ : ∃ m, (frameB d.r).length = m := ⟨_, rfl⟩
      have hnf2 := frameB_le d.r
      rw [hnf] at hnf2
      have HNf := Lib.hid hnf
      clear hnf
      go_wp2_with fail
      refine HC.mono ?_
      rintro e w6 ⟨v, rfl, hoB, hb⟩
      obtain ⟨AF, cF, rfl⟩ := hoB.form
      rw [HNf.out]
      clear hoB HC
      replace S := S.keep hb
      replace hI := hI.keep hb
      replace BX := BX.keep hb
      clear hb hc8
      have hSkip : eo = false ∨ 1000 < nf ∨ (eo = true ∧ nf ≤ 1000) := by cases eo; exact Or.inl rfl; by_cases h : nf ≤ 1000; exact Or.inr (Or.inr ⟨rfl, h⟩); exact Or.inr (Or.inl (by omega))
      rcases hSkip with rfl | hbg | ⟨rfl, hsm⟩
      · go_wp2_with fail
        go_roundw
        case rel => exact ⟨k + 1, sy, A, c, ds, As, ns, cs, Al, nl, cl, rfl, rfl, by go_num, by omega, by omega, hsy, HOk, S⟩
        case measure => simp [intOf]; omega
      · have hbgI : (1000 : Int) < (nf : Int) := by omega
        cases eo
        · go_wp2_with fail
          go_roundw
          case rel => exact ⟨k + 1, sy, A, c, ds, As, ns, cs, Al, nl, cl, rfl, rfl, by go_num, by omega, by omega, hsy, HOk, S⟩
          case measure => simp [intOf]; omega
        · go_wp2_with fail
          go_roundw
          case rel => exact ⟨k + 1, sy, A, c, ds, As, ns, cs, Al, nl, cl, rfl, rfl, by go_num, by omega, by omega, hsy, HOk, S⟩
          case measure => simp [intOf]; omega
      have hsmI : (nf : Int) ≤ 1000 := by omega
      have hA := syn_app HOk.out (sy := sy) (by rw [List.length_map]; exact hsy) (by rw [List.length_map]; omega) HEo.out (by rw [HNf.out]; exact hsm)
      have HOk2 := Lib.hid (syn_push HOk.out (by rw [List.length_map]; omega) HEo.out (by rw [HNf.out]; exact hsm))
      have HDz := Lib.hid (Nat.le_trans (synD_sz HOk.out sy) (by omega : 40000 ≤ 1048576))
      have HC := impl_AppendLog [.slice As ns cs, .slice Al nl cl] (synD (ds.map RecD.r) sy) [.int .i64 d.k, .slice d.A1 d.xs.length d.c1, .slice d.A2 d.ss.length d.c2] d.r w6 S.rd (of_rd_Record (x := d.r) hI.rd1 hI.rd2) HDz.out HSz.out
      rw [hA.1, hA.2] at HC
      clear hA HDz HNf HEo
      have hc3 := S.b.cell; have hc8 := BX.cell
      have h6 := S.b.lt
      have ho6 : ∀ q, (Value.slice A ds.length c).ownBlock = some q → q < w6.heap.size := fun q e => (S.ow.lt q e).2
      go_wp2_with fail
      refine HC.mono ?_
      rintro e w7 ⟨cs', rfl, hoD, hb⟩
      obtain ⟨u0, u1, S0, S1, rfl, p0, p1, s0, s1, s2⟩ := own_Disk hoD
      obtain ⟨Au, cu, rfl⟩ := p0.form
      obtain ⟨Av, cv, rfl⟩ := p1.form
      clear p0 p1 s0 s1 s2 S0 S1
      generalize (synD (ds.map RecD.r ++ [d.r]) sy).Safe.length = nu at *
      generalize (synD (ds.map RecD.r ++ [d.r]) sy).Loose.length = nv at *
      replace S := S.keep hb
      replace hI := hI.keep hb
      replace BX := BX.keep hb
      clear HC hc3 hc8
      have hsz7 := hb.size
      have hb8w := BX.lt
      have hb3w := S.b.lt
      have hbY : Below w7.heap.size w7 (w7.alloc (.cells #[.slice Au nu cu, .slice Av nv cv] 41)) := by (repeat (first | (with_reducible exact Below.refl _ _) | (with_reducible assumption) | ((with_reducible refine Below.setCell ?_ ?_ _); rotate_left; focus (first | omega | (simp; done) | (simp; omega))) | ((with_reducible refine Below.alloc ?_ ?_ _); rotate_left; focus (first | omega | (simp; done) | (simp; omega))) | (with_reducible refine Below.drew ?_) | (with_reducible refine below_drewN ?_ _) | (refine Below.trans ?_ (Below.mono (by with_reducible assumption) (by (first | omega | (simp; done) | (simp; omega)))))))
      have BY : Blk (w7.alloc (.cells #[.slice Au nu cu, .slice Av nv cv] 41)) w7.heap.size 41 #[.slice Au nu cu, .slice Av nv cv] := Blk.new' rfl
      replace S := S.keep hbY
      replace hI := hI.keep hbY
      replace BX := BX.keep hbY
      have hoD2 : DiskR.Own (w7.alloc (.cells #[.slice Au nu cu, .slice Av nv cv] 41)) (InR w6.heap.size (w7.alloc (.cells #[.slice Au nu cu, .slice Av nv cv] 41)).heap.size) [.slice Au nu cu, .slice Av nv cv] (synD (ds.map RecD.r ++ [d.r]) sy) := DiskR.own_wide (DiskR.own_keep hoD hbY) (fun g hg => ⟨hg.1, Nat.lt_of_lt_of_le hg.2 hbY.size⟩)
      clear hoD hb
      go_upto_region 14 with fail
      generalize (w7.alloc (.cells #[.slice Au nu cu, .slice Av nv cv] 41)) = w8 at *
      obtain ⟨b11, hb11⟩ : ∃ b, b = w7.heap.size := ⟨_, rfl⟩
      rw [← hb11] at BY ⊢
      have h311 : b3 ≠ b11 := by omega
      have h811 : b8 ≠ b11 := by omega
      clear hb11 hbY
      have hc3 := S.b.cell; have hf3 := S.b.frozen; have hl3 := S.b.lt; have hc11 := BY.cell
      have S9 := S.set hoD2 h6 ho6
      have hI9 : RIn ((w8.setCell ⟨b3, 0, none⟩ (.slice Au nu cu)).setCell ⟨b3, 1, none⟩ (.slice Av nv cv)) (Low lo) d := hI.out (T := fun q => q = b3) ((out_set _ _ _ _).trans (out_set _ _ _ _)) (fun q hq => by show q < lo; omega)
      have BX9 := (BX.far (p := ⟨b3, 0, none⟩) (by simp; omega) (.slice Au nu cu)).far (p := ⟨b3, 1, none⟩) (by simp; omega) (.slice Av nv cv)
      go_upto_region 17 with fail
      generalize ((w8.setCell ⟨b3, 0, none⟩ (.slice Au nu cu)).setCell ⟨b3, 1, none⟩ (.slice Av nv cv)) = w9 at *
      clear hc3 hf3 hl3 hc11 S hI BX hoD2 h6 ho6 BY
      have hc8 := BX9.cell
      have how := S9.ow; have hl9 := S9.b.lt
      have hbs : b3 + 1 ≤ w9.heap.size := by omega
      go_wp2_with (first | (at_builtin; go_loud (refine wpList_append_own_at _ rfl _ _ 36 rfl (b3 + 1) 27 i0 _ 3 56 Try.underlying36 hi0 hI0 hI1 hI2 rfl (by decide) _ _ _ rfl (how.alloc _) ⟨w9.heap.size, 0, none⟩ 1 1 [.int .i64 d.k, .slice d.A1 d.xs.length d.c1, .slice d.A2 d.ss.length d.c2] rfl rfl ?c1 ?c2 ?c3 ?c4 ?c5 ?_; (case c1 => exact (World.news_of_block (cs := #[.int .i64 d.k, .slice d.A1 d.xs.length d.c1, .slice d.A2 d.ss.length d.c2]) (t := 27) (fr := (0, 0)) (heap_alloc_new w9 _))); (case c2 => simp [Value.oneCell']); (case c3 => (simp only [maxLen]; omega)); (case c4 => omega); (case c5 => (simp; omega)); intro v' wf hown1 hgrow hnil hat; obtain ⟨gg, cap, rfl, hg1, hg2⟩ := hown1.form (by omega))))
      have S10 := S9.push hI9 hL3 hLo hown1 hgrow (by rcases hat with h | h; exact Or.inl h.symm; exact Or.inr (by simpa [Value.ownBlock] using h))
      clear hown1 hgrow hnil hat hg1 hg2 how S9 hI9 BX9 hc8 hl9 hbs
      have HL1 : Hid ((ds ++ [d]).length = ds.length + 1) := Lib.hid (by rw [List.length_append]; rfl)
      have HM1 : Hid ((ds ++ [d]).map RecD.r = ds.map RecD.r ++ [d.r]) := Lib.hid (by rw [List.map_append]; rfl)
      rw [← HM1.out] at S10 HOk2
      have hw1 : IntKind.i64.wrap ((k : Int) + 1) = (k : Int) + 1 := IntWalk.i64_in _ (by omega)
      have HA := HAt.out (k + 1) (by omega) wf S10.bw
      rw [show ((k + 1 : Nat) : Int) = (k : Int) + 1 by omega] at HA
      obtain ⟨x0b, -⟩ := HAb.out (k + 1)
      generalize aV (k + 1) = xk at HA x0b
      go_wp2_with fail
      refine HA.mono ?_
      rintro e w' ⟨rfl, rfl⟩
      have htm : (Int.tmod xk 4 == 0) = (xk % 4 == 0) := by rw [Int.tmod_eq_emod_of_nonneg x0b]
      clear HA
      cases hx4 : (xk % 4 == 0)
      · rw [hx4] at htm
        go_wp2_with fail
        go_roundw
        case rel => exact ⟨k + 1, sy, some ⟨gg, 0, none⟩, cap, ds ++ [d], Au, nu, cu, Av, nv, cv, by rw [HL1.out], rfl, by go_num, by omega, by rw [HL1.out]; omega, by rw [HL1.out]; omega, HOk2, S10⟩
        case measure => simp [intOf]; omega
      · rw [hx4] at htm
        have HSy := syn_sync HOk2.out sy
        have HDz := Lib.hid (Nat.le_trans (synD_sz HOk2.out sy) (by omega : 40000 ≤ 1048576))
        have HC := impl_SyncLog [.slice Au nu cu, .slice Av nv cv] (synD ((ds ++ [d]).map RecD.r) sy) wf S10.rd HDz.out
        rw [HSy] at HC
        have h6 := S10.b.lt
        have ho6 : ∀ q, (Value.slice (some ⟨gg, 0, none⟩) (ds ++ [d]).length cap).ownBlock = some q → q < wf.heap.size := fun q e => (S10.ow.lt q e).2
        have hc3 := S10.b.cell
        clear HSy HDz
        go_wp2_with fail
        refine HC.mono ?_
        rintro e wg ⟨cs', rfl, hoD, hb⟩
        obtain ⟨t0, t1, Q0, Q1, rfl, p0, p1, s0, s1, s2⟩ := own_Disk hoD
        obtain ⟨At, ct, rfl⟩ := p0.form
        obtain ⟨Av2, cv2, rfl⟩ := p1.form
        clear p0 p1 s0 s1 s2 Q0 Q1
        generalize (synD ((ds ++ [d]).map RecD.r) ((ds ++ [d]).map RecD.r).length).Safe.length = nt at *
        generalize (synD ((ds ++ [d]).map RecD.r) ((ds ++ [d]).map RecD.r).length).Loose.length = nv2 at *
        replace S10 := S10.keep hb
        clear HC hc3
        have S11 := S10.set hoD h6 ho6
        have hc3 := S10.b.cell; have hf3 := S10.b.frozen; have hl3 := S10.b.lt
        go_wp2_with fail
        go_roundw
        case rel => exact ⟨k + 1, (ds ++ [d]).length, some ⟨gg, 0, none⟩, cap, ds ++ [d], At, nt, ct, Av2, nv2, cv2, by rw [HL1.out], by rw [HL1.out]; go_num, by go_num, by omega, by rw [HL1.out]; omega, Nat.le_refl _, HOk2, by rw [List.length_map] at S11; exact S11⟩
        case measure => simp [intOf]; omega
    · obtain rfl : k = n := by omega
      clear hlt HAlt
      have HL0 : Hid ((ds.map RecD.r).length = ds.length) := Lib.hid (List.length_map _)
      have hLo := syn_loose HOk.out (sy := sy) (by rw [HL0.out]; exact hsy)
      have HCr := Lib.hid (fun kk : Int => syn_crash HOk.out (sy := sy) (by rw [HL0.out]; exact hsy) kk)
      have HDz := Lib.hid (Nat.le_trans (synD_sz HOk.out sy) (by omega : 40000 ≤ 1048576))
      have hDl := synD_sz HOk.out sy
      rw [sz_Disk, sz_ByteS, sz_ByteS] at hDl
      rw [HL0.out] at hLo
      have hdn : ds.length ≤ 30 := by omega
      have HRs := Lib.hid (fun j => read_sz HOk.out j)
      have HAg := Lib.hid (fun j => syn_again HOk.out j)
      have HFr := Lib.hid (fun j => syn_fresh HOk.out j)
      generalize synD (ds.map RecD.r) sy = D at *
      obtain ⟨z0, z1, ez, p0, p1⟩ := rd_Disk S.rd
      simp only [List.cons.injEq, and_true] at ez
      obtain ⟨rfl, rfl⟩ := ez
      obtain ⟨-, -, -, -⟩ := rd_ByteS p0
      obtain ⟨hnl, -, -, -⟩ := rd_ByteS p1
      have hnl2 : nl ≤ 40000 := by omega
      clear p0 p1 hnl hDl
      have HC := impl_LooseRecordsL [.slice As ns cs, .slice Al nl cl] D wr S.rd HDz.out
      rw [hLo] at HC
      have hw1 : IntKind.i64.wrap ((ds.length : Int) - (sy : Int)) = (ds.length : Int) - (sy : Int) := IntWalk.i64_in _ (by omega)
      have hne : (((ds.length : Int) - (sy : Int)) != ((ds.length : Int) - (sy : Int))) = false := by simp
      have hc3 := S.b.cell
      clear hLo
      go_wp2_with fail
      refine HC.mono ?_
      rintro e w1 ⟨rfl, hb⟩
      replace S := S.keep hb
      clear hb hc3 HC
      go_upto_region 23 with fail
      clear hw1 hne
      have rl := S.list
      obtain ⟨b0, b1⟩ := HAb.out 2
      obtain ⟨b2, b3'⟩ := HAb.out 3
      have HA2 : Hid (∀ w' : World, Below w.heap.size w w' → Calls Try.prog 15 #[.slice A0 n0 c0, .int .i64 2] w' fun e w'' => e = .returned (.int .i64 (aV 2)) ∧ w' = w'') := Lib.hid (fun w' hb => HAt.out 2 (by omega) w' hb)
      have HA3 : Hid (∀ w' : World, Below w.heap.size w w' → Calls Try.prog 15 #[.slice A0 n0 c0, .int .i64 3] w' fun e w'' => e = .returned (.int .i64 (aV 3)) ∧ w' = w'') := Lib.hid (fun w' hb => HAt.out 3 (by omega) w' hb)
      generalize aV 2 = x2 at *
      generalize aV 3 = x3 at *
      have hm0 : 0 ≤ x2 * x3 := Int.mul_nonneg b0 b2
      have hm1 : x2 * x3 ≤ 255 * 255 := Int.mul_le_mul b1 b3' b2 (by omega)
      obtain ⟨kk, hk1⟩ : ∃ kk : Int, Int.tmod (x2 * x3) (1 + (nl : Int)) = kk := ⟨_, rfl⟩
      have hk2 : x2 * x3 % (1 + (nl : Int)) = kk := by rw [← hk1, Int.tmod_eq_emod_of_nonneg hm0]
      have hw1 : IntKind.i64.wrap (x2 * x3) = x2 * x3 := IntWalk.i64_in _ (by omega)
      have hw2 : IntKind.i64.wrap (1 + (nl : Int)) = 1 + (nl : Int) := IntWalk.i64_in _ (by omega)
      have hnz : ¬ (1 + (nl : Int) = 0) := by omega
      obtain ⟨j, hsc⟩ := HCr.out kk
      have HCC := Lib.hid (fun (w' : World) (hb : Below w1.heap.size w1 w') => impl_CrashLog [.slice As ns cs, .slice Al nl cl] D kk w' (S.keep hb).rd HDz.out)
      generalize crashLog D kk = X at *
      have hb3l := S.b.lt
      have BK3 := S.b
      have hc3 := BK3.cell; have hc3d := BK3.drew.cell
      have HSw := Lib.hid S.bw
      go_cut [13] (fun s13 wx => ∃ (b13 : Nat) (Au : Option Addr) (nu cu : Nat) (Av : Option Addr) (nv cv : Nat), s13 = .pointer (some ⟨b13, 0, none⟩) ∧ Blk wx b13 41 #[.slice Au nu cu, .slice Av nv cv] ∧ DiskR.Rd wx wx.heap.size [.slice Au nu cu, .slice Av nv cv] X ∧ Below w1.heap.size w1 wx)
      case first =>
        go_region_held3 (fun w' => w'.cell? ⟨b3, 0, none⟩ = some (.slice As ns cs) ∧ w'.cell? ⟨b3, 1, none⟩ = some (.slice Al nl cl))
          (refine ⟨Blk.cell (t := 41) (cs := #[.slice As ns cs, .slice Al nl cl]) ?_ 0, Blk.cell (t := 41) (cs := #[.slice As ns cs, .slice Al nl cl]) ?_ 1⟩ <;> (repeat (first | (with_reducible assumption) | ((with_reducible refine Blk.new' ?_); focus (simp; done)) | (with_reducible refine Blk.alloc ?_ _) | (with_reducible refine Blk.drew ?_) | (with_reducible refine Blk.drewN ?_ _) | ((with_reducible refine Blk.far ?_ ?_ _); rotate_left; focus (first | omega | (simp; done) | (simp; omega))) | (refine Blk.keep ?_ (by with_reducible assumption)) | (refine Blk.below ?_ (by with_reducible assumption) (by (first | omega | (simp; done) | (simp; omega)))))))
          (first
          | (go_at_call 15; ((with_reducible refine (HA2.out _ ?_).mono ?_); (focus (exact HSw.out.trans (Below.mono (by (repeat (first | (with_reducible exact Below.refl _ _) | (with_reducible assumption) | ((with_reducible refine Below.setCell ?_ ?_ _); rotate_left; focus (first | omega | (simp; done) | (simp; omega))) | ((with_reducible refine Below.alloc ?_ ?_ _); rotate_left; focus (first | omega | (simp; done) | (simp; omega))) | (with_reducible refine Below.drew ?_) | (with_reducible refine below_drewN ?_ _) | (refine Below.trans ?_ (Below.mono (by with_reducible assumption) (by (first | omega | (simp; done) | (simp; omega)))))))) HSw.out.size))); rintro e w' ⟨rfl, rfl⟩))
          | (go_at_call 15; ((with_reducible refine (HA3.out _ ?_).mono ?_); (focus (exact HSw.out.trans (Below.mono (by (repeat (first | (with_reducible exact Below.refl _ _) | (with_reducible assumption) | ((with_reducible refine Below.setCell ?_ ?_ _); rotate_left; focus (first | omega | (simp; done) | (simp; omega))) | ((with_reducible refine Below.alloc ?_ ?_ _); rotate_left; focus (first | omega | (simp; done) | (simp; omega))) | (with_reducible refine Below.drew ?_) | (with_reducible refine below_drewN ?_ _) | (refine Below.trans ?_ (Below.mono (by with_reducible assumption) (by (first | omega | (simp; done) | (simp; omega)))))))) HSw.out.size))); rintro e w' ⟨rfl, rfl⟩))
          | (go_at_call 22; ((with_reducible refine (HCC.out _ ?_).mono ?_); (focus (repeat (first | (with_reducible exact Below.refl _ _) | (with_reducible assumption) | ((with_reducible refine Below.setCell ?_ ?_ _); rotate_left; focus (first | omega | (simp; done) | (simp; omega))) | ((with_reducible refine Below.alloc ?_ ?_ _); rotate_left; focus (first | omega | (simp; done) | (simp; omega))) | (with_reducible refine Below.drew ?_) | (with_reducible refine below_drewN ?_ _) | (refine Below.trans ?_ (Below.mono (by with_reducible assumption) (by (first | omega | (simp; done) | (simp; omega))))))))); rintro e wC ⟨cs', rfl, hoD, hbC⟩; (try ((refine (fun BN1 : Blk wC w1.heap.size 41 #[.slice none 0 0, .slice none 0 0] => ?_ : Blk wC w1.heap.size 41 #[.slice none 0 0, .slice none 0 0] → _) ?_); (rotate_left; focus ((repeat (first | (with_reducible assumption) | ((with_reducible refine Blk.new' ?_); focus (simp; done)) | (with_reducible refine Blk.alloc ?_ _) | (with_reducible refine Blk.drew ?_) | (with_reducible refine Blk.drewN ?_ _) | ((with_reducible refine Blk.far ?_ ?_ _); rotate_left; focus (first | omega | (simp; done) | (simp; omega))) | (refine Blk.keep ?_ (by with_reducible assumption)) | (refine Blk.below ?_ (by with_reducible assumption) (by (first | omega | (simp; done) | (simp; omega)))))); done)); have hcN1 := BN1.cell; have hfN1 := BN1.frozen; have hlN1 := BN1.lt)); obtain ⟨u0, u1, Q0, Q1, rfl, p0, p1, s0, s1, s2⟩ := own_Disk (_root_.id hoD); obtain ⟨Au, cu, rfl⟩ := p0.form; obtain ⟨Av, cv, rfl⟩ := p1.form; clear p0 p1 s0 s1 s2 Q0 Q1; have hzC := hbC.size; (try simp at hzC)))
        all_goals
          have hbC1 : Below w1.heap.size w1 wC := by (repeat (first | (with_reducible exact Below.refl _ _) | (with_reducible assumption) | ((with_reducible refine Below.setCell ?_ ?_ _); rotate_left; focus (first | omega | (simp; done) | (simp; omega))) | ((with_reducible refine Below.alloc ?_ ?_ _); rotate_left; focus (first | omega | (simp; done) | (simp; omega))) | (with_reducible refine Below.drew ?_) | (with_reducible refine below_drewN ?_ _) | (refine Below.trans ?_ (Below.mono (by with_reducible assumption) (by (first | omega | (simp; done) | (simp; omega)))))))
          go_wp2_with fail
          go_meet
          first
          | exact ⟨wC.heap.size, Au, _, cu, Av, _, cv, rfl, Blk.new' rfl, DiskR.rd_keep (DiskR.own_rd hoD (fun g hg => hg.2)) ((Below.refl _ wC).alloc (Nat.le_refl _) _) (by simp), hbC1.alloc hbC1.size _⟩
          | exact ⟨w1.heap.size, Au, _, cu, Av, _, cv, rfl, (BN1.set_ 0 _).set_ 1 _, DiskR.own_rd (DiskR.own_out hoD ((out_set _ _ _ _).trans (out_set _ _ _ _)) (fun g hg e => by have := hg.1; simp at this; omega)) (fun g hg => by simpa using hg.2), (hbC1.setCell (by simp) _).setCell (by simp) _⟩
      case rest =>
      obtain ⟨b13, Au, nu, cu, Av, nv, cv, rfl, B13, rX, hb⟩ := hcut
      obtain ⟨w2, hw2_⟩ : ∃ w_, w_ = wc := ⟨_, rfl⟩
      subst hw2_
      replace S := S.keep hb
      replace rl := rl.keep hb hb.size
      clear hb hc3 hc3d BK3 hm0 hm1 hk1 hk2 hw1 hw2 hnz HCC HA2 HA3 b0 b1 b2 b3' hb3l HSw HCr
      obtain ⟨cl1, cl2, cl3, cl4, cl5, cl6, cl7, cl8⟩ := hsc
      have hbw := S.bw
      clear S HDz
      obtain ⟨nj, hnj⟩ : ∃ m, ((ds.map RecD.r).take j).length = m := ⟨_, rfl⟩
      have hnj2 : nj = j := by rw [← hnj, List.length_take, HL0.out]; have := cl2; rw [HL0.out] at this; omega
      rw [hnj2] at hnj
      have Hnj := Lib.hid hnj
      rw [HL0.out] at cl2
      clear hnj hnj2 nj
      have hc13 := B13.cell
      have HXz := Lib.hid (Nat.le_trans cl8 (by omega : 40000 ≤ 1048576))
      have HC := impl_ReadLogL [.slice Au nu cu, .slice Av nv cv] X w2 rX HXz.out
      rw [cl4] at HC
      obtain ⟨kc, hkc⟩ : ∃ m, readC X = m := ⟨_, rfl⟩
      rw [hkc] at HC cl5
      clear hkc cl3 cl4 cl8
      go_wp2_with fail
      refine HC.mono ?_
      rintro e w3 ⟨v, rfl, hoS, hb⟩
      obtain ⟨AR, cR, rfl⟩ := hoS.form
      have rR := hoS.rd (B := w3.heap.size) (fun g hg => hg.2)
      rw [Hnj.out] at rR ⊢
      replace B13 := B13.keep hb
      replace rX := DiskR.rd_keep rX hb hb.size
      replace rl := rl.keep hb hb.size
      replace hbw := hbw.trans (hb.mono hbw.size)
      clear hoS HC hb hc13
      have hj1 : (sy : Int) ≤ (j : Int) := by omega
      have hj2 : (j : Int) ≤ (ds.length : Int) := by omega
      go_upto_region 25 with fail
      go_cut [116] (fun s116 wx => s116 = .bool false ∧ wx = w3)
      case first =>
        rcases cl5 with rfl | rfl
        · go_wp2_with fail
          go_meet
          exact ⟨by rw [decide_eq_false (by omega), decide_eq_false (by omega)]; rfl, rfl⟩
        · go_wp2_with fail
          go_meet
          exact ⟨by rw [decide_eq_false (by omega), decide_eq_false (by omega)]; rfl, rfl⟩
      case rest =>
      obtain ⟨rfl, hwx⟩ := hcut
      have hwx2 := hwx.symm
      subst hwx2
      clear hwx cl5
      go_wp2_with fail
      go_loopw [16] (fun i wr => ∃ q : Nat, q ≤ j ∧ i = .int .i64 q ∧ Below w3.heap.size w3 wr) (fun i _ => j - (intOf i).toNat)
      case atStart => exact ⟨0, Nat.zero_le _, rfl, Below.refl _ _⟩
      case round =>
        obtain ⟨q, hq, rfl, hb⟩ := hrel
        by_cases hltq : q < j
        · have hltI : (q : Int) < (j : Int) := by omega
          have hltJ : (q : Int) < (ds.length : Int) := by omega
          have hqd : q < (ds.map RecD.r).length := by rw [HL0.out]; omega
          have hg1 := List.getElem?_eq_getElem hqd
          have hg2 : ((ds.map RecD.r).take j)[q]? = some ((ds.map RecD.r)[q]'hqd) := by rw [List.getElem?_take_of_lt hltq]; exact hg1
          obtain ⟨bA, oA, A1a, c1a, A2a, c2a, rfl, hba, q1a, q2a, f0, f1, f2⟩ := rec_elem (rR.keep hb hb.size) hg2
          obtain ⟨bB, oB, A1b, c1b, A2b, c2b, rfl, hbb, q1b, q2b, g0, g1, g2⟩ := rec_elem (rl.keep hb hb.size) hg1
          generalize (ds.map RecD.r)[q]'hqd = r at *
          obtain ⟨m1, hm1⟩ : ∃ m, r.Nums.length = m := ⟨_, rfl⟩
          obtain ⟨m2, hm2⟩ : ∃ m, r.Texts.length = m := ⟨_, rfl⟩
          rw [hm1] at q1a q1b f1 g1
          rw [hm2] at q2a q2b f2 g2
          have hszr := Nat.le_trans (szList_one (R := RecordR) hg2) (HRs.out j)
          rw [sz_Record, sz_IntS, sz_StringS, hm1, hm2] at hszr
          have HSR := Lib.hid (fun (w' : World) (hb' : Below wr.heap.size wr w') => spec_same_rec A1a A2a A1b A2b c1a c2a c1b c2b m1 m2 r w' (q1a.keep hb' hb'.size) (q2a.keep hb' hb'.size) (q1b.keep hb' hb'.size) (q2b.keep hb' hb'.size) (by omega) (by omega))
          clear q1a q2a q1b q2b hszr hm1 hm2 hg1 hg2
          have hzq := hb.size
          go_upto_region 30 with fail
          have t0 := later_cell f0; have t1 := later_cell f1; have t2 := later_cell f2; have t3 := later_cell g0; have t4 := later_cell g1; have t5 := later_cell g2
          go_cut [132] (fun s132 wx => s132 = .bool false ∧ Below wr.heap.size wr wx)
          case first =>
            refine wp_region_later (by kernel_rfl) (by kernel_rfl) ?_
            repeat (first | go_big_quiet_step ((go_at_call 24; with_reducible exact Calls.later_of (HSR.out _ (later_below _ _)))) | quiet_step ((go_at_call 24; with_reducible exact Calls.later_of (HSR.out _ (later_below _ _)))))
            refine wpQuiet_nil ?_
            intro w9 hb9
            go_wp2_with fail
            go_meet
            exact ⟨rfl, hb9⟩
          case rest =>
            obtain ⟨rfl, hb9⟩ := hcut
            clear t0 t1 t2 t3 t4 t5 f0 f1 f2 g0 g1 g2 HSR
            go_wp2_with fail
            go_roundw
            case rel => exact ⟨q + 1, by omega, by go_num, hb.trans (hb9.mono hzq)⟩
            case measure => simp [intOf]; omega
        · obtain rfl : q = j := by omega
          replace B13 := B13.keep hb
          replace rX := DiskR.rd_keep rX hb hb.size
          replace rR := rR.keep hb hb.size
          replace hbw := hbw.trans (hb.mono hbw.size)
          clear rl hb
          have hc13 := B13.cell
          have HC := impl_RepairLogL [.slice Au nu cu, .slice Av nv cv] X wr rX HXz.out
          rw [cl6, cl7] at HC
          obtain ⟨ag1, ag2, ag3⟩ := HAg.out q
          obtain ⟨fr1, fr2⟩ := HFr.out q
          have HRz := Lib.hid (HRs.out q)
          generalize framesB ((ds.map RecD.r).take q) = fb at *
          have hfb : fb.length ≤ 40000 := by rw [sz_Disk, sz_ByteS, sz_ByteS] at ag3; simp only [List.length_nil] at ag3; omega
          obtain ⟨nf, hnf⟩ : ∃ m, fb.length = m := ⟨_, rfl⟩
          rw [hnf] at hfb
          have Hnf := Lib.hid hnf
          clear cl6 cl7 hnf
          go_wp2_with fail
          refine HC.mono ?_
          rintro e w4 ⟨cs', rfl, hoD, hb⟩
          obtain ⟨z0, z1, Q0, Q1, rfl, p0, p1, s0, s1, -⟩ := own_Disk hoD
          obtain ⟨Af, cf, rfl⟩ := p0.form
          obtain ⟨Ag, cg, rfl⟩ := p1.form
          have rF := p0.rd (B := w4.heap.size) (fun g hg => (s0 g hg).2)
          have rG := p1.rd (B := w4.heap.size) (fun g hg => (s1 g hg).2)
          dsimp only [List.length_nil] at rF rG ⊢
          rw [Hnf.out] at rF ⊢
          replace rR := rR.keep hb hb.size
          replace hbw := hbw.trans (hb.mono hbw.size)
          clear p0 p1 s0 s1 Q0 Q1 hoD HC hb hc13 B13 rX
          have hbX : Below w4.heap.size w4 (w4.alloc (.cells #[.slice Af nf cf, .slice Ag 0 cg] 41)) := by (repeat (first | (with_reducible exact Below.refl _ _) | (with_reducible assumption) | ((with_reducible refine Below.setCell ?_ ?_ _); rotate_left; focus (first | omega | (simp; done) | (simp; omega))) | ((with_reducible refine Below.alloc ?_ ?_ _); rotate_left; focus (first | omega | (simp; done) | (simp; omega))) | (with_reducible refine Below.drew ?_) | (with_reducible refine below_drewN ?_ _) | (refine Below.trans ?_ (Below.mono (by with_reducible assumption) (by (first | omega | (simp; done) | (simp; omega)))))))
          have B17 : Blk (w4.alloc (.cells #[.slice Af nf cf, .slice Ag 0 cg] 41)) w4.heap.size 41 #[.slice Af nf cf, .slice Ag 0 cg] := Blk.new' rfl
          replace rR := rR.keep hbX hbX.size
          replace rF := rF.keep hbX hbX.size
          replace rG := rG.keep hbX hbX.size
          replace hbw := hbw.trans (hbX.mono hbw.size)
          go_upto_region 33 with fail
          generalize (w4.alloc (.cells #[.slice Af nf cf, .slice Ag 0 cg] 41)) = w5 at *
          obtain ⟨b17, hb17⟩ : ∃ b, b = w4.heap.size := ⟨_, rfl⟩
          rw [← hb17] at B17 ⊢
          clear hb17 hbX
          have hc17 := B17.cell
          have HC := impl_ReadLogL [.slice Af nf cf, .slice Ag 0 cg] ⟨fb, []⟩ w5 (of_rd_Disk (x := ⟨fb, []⟩) rF rG) (Nat.le_trans ag3 (by omega))
          rw [ag1, ag2] at HC
          clear ag1 ag2
          go_wp2_with fail
          refine HC.mono ?_
          rintro e w6 ⟨v, rfl, hoS, hb⟩
          obtain ⟨AQ, cQ, rfl⟩ := hoS.form
          rw [Hnj.out]
          replace B17 := B17.keep hb
          replace rR := rR.keep hb hb.size
          replace rF := rF.keep hb hb.size
          replace hbw := hbw.trans (hb.mono hbw.size)
          clear hoS HC hb hc17 rG
          have HC := impl_RewriteLogL [.slice none 0 0, .slice none 0 0] ⟨[], []⟩ (.slice AR q cR) ((ds.map RecD.r).take q) w6 (of_rd_Disk (x := ⟨[], []⟩) ((SlOwn.nil byteR 5 w6 (fun _ => False)).rd (fun _ h => h.elim)) ((SlOwn.nil byteR 5 w6 (fun _ => False)).rd (fun _ h => h.elim))) rR (by rw [sz_Disk, sz_ByteS]; simp) (Nat.le_trans HRz.out (by omega))
          rw [fr1, fr2] at HC
          clear fr1 fr2
          go_wp2_with fail
          refine HC.mono ?_
          rintro e w7 ⟨cs', rfl, hoD, hb⟩
          obtain ⟨z0, z1, Q0, Q1, rfl, p0, p1, s0, s1, -⟩ := own_Disk hoD
          obtain ⟨Ah, ch, rfl⟩ := p0.form
          obtain ⟨Ai, ci, rfl⟩ := p1.form
          have rH := p0.rd (B := w7.heap.size) (fun g hg => (s0 g hg).2)
          dsimp only [List.length_nil] at rH ⊢
          rw [Hnf.out] at rH ⊢
          replace B17 := B17.keep hb
          replace rF := rF.keep hb hb.size
          replace hbw := hbw.trans (hb.mono hbw.size)
          clear p0 p1 s0 s1 Q0 Q1 hoD HC hb rR
          have hbX : Below w7.heap.size w7 (w7.alloc (.cells #[.slice Ah nf ch, .slice Ai 0 ci] 41)) := by (repeat (first | (with_reducible exact Below.refl _ _) | (with_reducible assumption) | ((with_reducible refine Below.setCell ?_ ?_ _); rotate_left; focus (first | omega | (simp; done) | (simp; omega))) | ((with_reducible refine Below.alloc ?_ ?_ _); rotate_left; focus (first | omega | (simp; done) | (simp; omega))) | (with_reducible refine Below.drew ?_) | (with_reducible refine below_drewN ?_ _) | (refine Below.trans ?_ (Below.mono (by with_reducible assumption) (by (first | omega | (simp; done) | (simp; omega)))))))
          have B21 : Blk (w7.alloc (.cells #[.slice Ah nf ch, .slice Ai 0 ci] 41)) w7.heap.size 41 #[.slice Ah nf ch, .slice Ai 0 ci] := Blk.new' rfl
          replace B17 := B17.keep hbX
          replace rF := rF.keep hbX hbX.size
          replace rH := rH.keep hbX hbX.size
          replace hbw := hbw.trans (hbX.mono hbw.size)
          go_upto_region 35 with fail
          generalize (w7.alloc (.cells #[.slice Ah nf ch, .slice Ai 0 ci] 41)) = w8 at *
          obtain ⟨b21, hb21⟩ : ∃ b, b = w7.heap.size := ⟨_, rfl⟩
          rw [← hb21] at B21 ⊢
          clear hb21 hbX
          have hc17 := B17.cell; have hc21 := B21.cell
          have HC := laws_sameBytes Ah Af ch cf nf fb w8 (rd_ByteS rH).2.1 (rd_ByteS rF).2.1 Hnf.out (by omega)
          have hqq : ((q : Int) == (q : Int)) = true := by simp
          go_wp2_with fail
          refine HC.mono ?_
          rintro e wz ⟨rfl, hb⟩
          have hbz := hbw.trans (hb.mono hbw.size)
          go_wp2
          go_ret
          exact ⟨rfl, hbz⟩
end Go.Proofs.Ytndgaakfndokgaa

/- FnRenewed: the walk of the law. -/
import Derived.Test.YtohfnpohmieknaaDoorDrawRenew
import Derived.Test.YtohfnpohmieknaaDoorSpecRenewL
import Derived.Test.YtohfnpohmieknaaDoorBigLaw
import Derived.Test.YtohfnpohmieknaaDoorByteS2
set_option linter.unusedSimpArgs false
set_option linter.unusedVariables false
set_option maxRecDepth 20000
namespace Go.Proofs.YtohfnpohmieknaaDoor
open Go.RowKit
def renY (b : Bool) (c : Int) (l : Lease) : Lease := match b with | true => lendL l c | false => l
theorem renL_path {ls : List Lease} {id now by_ : Int} (h : ∀ l ∈ ls, l.Path.size ≤ 200) : ∀ x ∈ renL ls id now by_, x.Path.size ≤ 9223372036854775807 := fun x hx => by
  obtain ⟨j, hj, e⟩ := List.mem_iff_getElem.1 hx
  have hj2 : j < ls.length := by rw [renL_len] at hj; exact hj
  have hg := (ren_get (id := id) (now := now) (by_ := by_) (List.getElem?_eq_getElem hj2)).1
  rw [List.getElem?_eq_getElem hj] at hg
  have e2 : x = renX (renC ls id now by_) id ls[j] := by rw [← e]; simpa using hg
  have hp := h _ (List.getElem_mem hj2)
  rw [e2]
  unfold renX
  split
  · exact Nat.le_trans hp (by omega)
  · exact Nat.le_trans hp (by omega)
theorem leases_sz {ls : List Lease} (h : ∀ l ∈ ls, l.Path.size ≤ 200) (hn : ls.length ≤ 151) : szList LeaseR ls ≤ 1048576 := by
  have h1 : ∀ {ts : List Lease}, (∀ l ∈ ts, l.Path.size ≤ 200) → (ts.map LeaseR.sz).sum ≤ 200 * ts.length := fun {ts} => by
    induction ts with
    | nil => intro _; simp
    | cons t ts ih =>
      intro h
      have h1 : LeaseR.sz t ≤ 200 := h t (List.mem_cons_self ..)
      have h2 := ih (fun s hs => h s (List.mem_cons_of_mem _ hs))
      rw [List.map_cons, List.sum_cons, List.length_cons, Nat.mul_succ]
      omega
  have h2 := h1 h
  unfold szList
  omega
theorem cell_off {w : World} {a p : Addr} {u v : Value} (h : w.cell? a = some v) (hp : a.block ≠ p.block) : (w.setCell p u).cell? a = some v := (World.cell?_of_block (w := w) (Below.heap_setCell w p u a.block hp)).trans h
set_option maxHeartbeats 12800000 in
theorem law_FnRenewed (v_code : Value) (code : List UInt8) (w : World) (hr_code : SlRd byteR w w.heap.size v_code code) (hmx : MaxLenInt w) :
    Calls Tryd.prog 3 #[v_code] w fun e w' => e = .returned (.bool true) ∧ Below w.heap.size w w' := by
  obtain ⟨A0, c0, rfl⟩ := SlRd.form hr_code
  obtain ⟨-, hrd, hcap1, hcap2⟩ := rd_ByteS hr_code
  have HBig := Lib.hid (fun (w' : World) => laws_big A0 code.length c0 w' (by omega))
  by_cases hbig : 1048576 < code.length
  · have hd : decide ((1048576 : Int) < (code.length : Int)) = true := by simp; omega
    rw [hd] at HBig
    go_enter Tryd.func3, Tryd.ntmps3
    go_wp2_with fail
    refine (HBig.out _).mono ?_
    rintro e w' ⟨rfl, rfl⟩
    go_wp2
    go_ret
    exact ⟨rfl, by (repeat (first | (with_reducible exact Below.refl _ _) | (with_reducible assumption) | ((with_reducible refine Below.setCell ?_ ?_ _); rotate_left; focus (first | omega | (simp; done) | (simp; omega))) | ((with_reducible refine Below.alloc ?_ ?_ _); rotate_left; focus (first | omega | (simp; done) | (simp; omega))) | (with_reducible refine Below.drew ?_) | (with_reducible refine below_drewN ?_ _) | (refine Below.trans ?_ (Below.mono (by with_reducible assumption) (by (first | omega | (simp; done) | (simp; omega)))))))⟩
  have hd : decide ((1048576 : Int) < (code.length : Int)) = false := by simp; omega
  rw [hd] at HBig
  have HD := Lib.hid (fun (w' : World) (hb : Below w.heap.size w w') => spec_DrawRenewLease A0 c0 code w' (hrd.keep hb hb.size) (by omega))
  have HMx := Lib.hid (fun (w' : World) (hb : Below w.heap.size w w') => hmx.keep hb)
  generalize code.length = n0 at *
  clear hrd hr_code hcap1 hcap2 hbig hmx
  go_enter Tryd.func3, Tryd.ntmps3
  go_wp2_with fail
  refine (HBig.out _).mono ?_
  rintro e w' ⟨rfl, rfl⟩
  go_wp2_with fail
  refine (HD.out _ (Below.refl _ _)).mono ?_
  rintro e w1 ⟨A, N, c, ls, id, now, by_, rfl, hF, hbw⟩
  clear HD HBig
  have rB := hF.rd
  have HLn := Lib.hid hF.len
  have hN := hF.few
  have hps := hF.tok
  have HSz := Lib.hid (leases_sz hps (by rw [HLn.out]; exact hN))
  have HPth := Lib.hid (renL_path (id := id) (now := now) (by_ := by_) hps)
  have HRl := Lib.hid (renL_len ls id now by_)
  have HGet := Lib.hid (fun (j : Nat) (l : Lease) (h : ls[j]? = some l) => ren_get (id := id) (now := now) (by_ := by_) h)
  replace rB := Lib.hid rB
  clear hF hps
  have hbX : Below w1.heap.size w1 (w1.alloc (.cells #[.slice A N c] 26)) := by (repeat (first | (with_reducible exact Below.refl _ _) | (with_reducible assumption) | ((with_reducible refine Below.setCell ?_ ?_ _); rotate_left; focus (first | omega | (simp; done) | (simp; omega))) | ((with_reducible refine Below.alloc ?_ ?_ _); rotate_left; focus (first | omega | (simp; done) | (simp; omega))) | (with_reducible refine Below.drew ?_) | (with_reducible refine below_drewN ?_ _) | (refine Below.trans ?_ (Below.mono (by with_reducible assumption) (by (first | omega | (simp; done) | (simp; omega)))))))
  have BX : Blk (w1.alloc (.cells #[.slice A N c] 26)) w1.heap.size 26 #[.slice A N c] := Blk.new' rfl
  have hsX : Hid (w1.heap.size + 1 = (w1.alloc (.cells #[.slice A N c] 26)).heap.size) := Lib.hid (by simp)
  replace hbw := hbw.trans (hbX.mono hbw.size)
  replace rB := Lib.hid (rB.out.keep hbX hbX.size)
  go_upto_region 4 with fail
  generalize (w1.alloc (.cells #[.slice A N c] 26)) = v1 at *
  obtain ⟨b3, hbe⟩ : ∃ b, b = w1.heap.size := ⟨_, rfl⟩
  rw [← hbe] at BX ⊢
  have hlX := hsX.out
  rw [← hbe] at hlX
  have hl3 : b3 < v1.heap.size := by omega
  clear hbe hbX hsX hlX
  have B3 := BX
  clear BX
  have hc3 := B3.cell
  have HS := Lib.hid (spec_RenewLease A c ls id now by_ v1 (by rw [HLn.out]; exact rB.out) HSz.out)
  have HI := Lib.hid (fun (w' : World) (hr : SlRd LeaseR w' w'.heap.size (.slice A N c) ls) (hx : MaxLenInt w') => impl_RenewLease A c ls id now by_ w' (by rw [HLn.out]; exact hr) HSz.out hx)
  rw [HLn.out] at HS HI HRl
  generalize renL ls id now by_ = rs at *
  generalize renC ls id now by_ = cc at *
  go_wp2_with fail
  refine (HS.out).mono ?_
  rintro e v2 ⟨AW, cW, rfl, -, hb⟩
  replace hbw := hbw.trans (hb.mono hbw.size)
  replace rB := Lib.hid (rB.out.keep hb hb.size)
  replace B3 := B3.keep hb
  clear hb HS
  have hbX : Below v2.heap.size v2 (v2.alloc (.cells #[.slice AW N cW] 26)) := by (repeat (first | (with_reducible exact Below.refl _ _) | (with_reducible assumption) | ((with_reducible refine Below.setCell ?_ ?_ _); rotate_left; focus (first | omega | (simp; done) | (simp; omega))) | ((with_reducible refine Below.alloc ?_ ?_ _); rotate_left; focus (first | omega | (simp; done) | (simp; omega))) | (with_reducible refine Below.drew ?_) | (with_reducible refine below_drewN ?_ _) | (refine Below.trans ?_ (Below.mono (by with_reducible assumption) (by (first | omega | (simp; done) | (simp; omega)))))))
  have BX : Blk (v2.alloc (.cells #[.slice AW N cW] 26)) v2.heap.size 26 #[.slice AW N cW] := Blk.new' rfl
  have hsX : Hid (v2.heap.size + 1 = (v2.alloc (.cells #[.slice AW N cW] 26)).heap.size) := Lib.hid (by simp)
  replace hbw := hbw.trans (hbX.mono hbw.size)
  replace rB := Lib.hid (rB.out.keep hbX hbX.size)
  replace B3 := B3.keep hbX
  clear hc3
  go_upto_region 5 with fail
  generalize (v2.alloc (.cells #[.slice AW N cW] 26)) = v3 at *
  obtain ⟨b7, hbe⟩ : ∃ b, b = v2.heap.size := ⟨_, rfl⟩
  rw [← hbe] at BX ⊢
  have hlX := hsX.out
  rw [← hbe] at hlX
  have hl7 : b7 < v3.heap.size := by omega
  clear hbe hbX hsX hlX
  have B7 := BX
  clear BX
  have hc3 := B3.cell
  clear B7
  go_wp2_with fail
  refine (HI.out _ rB.out (HMx.out _ hbw)).mono ?_
  rintro e v4 ⟨AN, cN, rfl, hown, hb⟩
  have rN := rd_own_LeaseS hown HRl.out HPth.out
  clear hown HI
  replace hbw := hbw.trans (hb.mono hbw.size)
  replace rB := Lib.hid (rB.out.keep hb hb.size)
  replace B3 := B3.keep hb
  clear hb
  replace rN := Lib.hid rN
  have hbX : Below v4.heap.size v4 (v4.alloc (.cells #[.slice AN N cN] 26)) := by (repeat (first | (with_reducible exact Below.refl _ _) | (with_reducible assumption) | ((with_reducible refine Below.setCell ?_ ?_ _); rotate_left; focus (first | omega | (simp; done) | (simp; omega))) | ((with_reducible refine Below.alloc ?_ ?_ _); rotate_left; focus (first | omega | (simp; done) | (simp; omega))) | (with_reducible refine Below.drew ?_) | (with_reducible refine below_drewN ?_ _) | (refine Below.trans ?_ (Below.mono (by with_reducible assumption) (by (first | omega | (simp; done) | (simp; omega)))))))
  have BX : Blk (v4.alloc (.cells #[.slice AN N cN] 26)) v4.heap.size 26 #[.slice AN N cN] := Blk.new' rfl
  have hsX : Hid (v4.heap.size + 1 = (v4.alloc (.cells #[.slice AN N cN] 26)).heap.size) := Lib.hid (by simp)
  replace hbw := hbw.trans (hbX.mono hbw.size)
  replace rB := Lib.hid (rB.out.keep hbX hbX.size)
  replace B3 := B3.keep hbX
  replace rN := Lib.hid (rN.out.keep hbX hbX.size)
  clear hc3
  go_upto_region 6 with fail
  generalize (v4.alloc (.cells #[.slice AN N cN] 26)) = v5 at *
  obtain ⟨b9, hbe⟩ : ∃ b, b = v4.heap.size := ⟨_, rfl⟩
  rw [← hbe] at BX ⊢
  have hlX := hsX.out
  rw [← hbe] at hlX
  have hl9 : b9 < v5.heap.size := by omega
  clear hbe hbX hsX hlX
  have B9 := BX
  clear BX
  have hc3 := B3.cell
  have hc9 := B9.cell
  have hcc : (cc != cc) = false := by simp
  have hNN : ((N : Int) != (N : Int)) = false := by simp
  go_wp2_with fail
  clear hc3 hc9
  go_loopw [11] (fun i wr => ∃ k : Nat, k ≤ N ∧ i = .int .i64 k ∧ Below v5.heap.size v5 wr) (fun i _ => N - (intOf i).toNat)
  case atStart => exact ⟨0, Nat.zero_le _, rfl, Below.refl _ _⟩
  case round =>
    obtain ⟨k, hk, rfl, hb⟩ := hrel
    have hzr := hb.size
    have B3r := B3.keep hb; have B9r := B9.keep hb
    have hc3 := B3r.cell; have hc9 := B9r.cell
    by_cases hlt : k < N
    · have hltI : (k : Int) < (N : Int) := by omega
      have hkl : k < ls.length := by rw [HLn.out]; exact hlt
      have hg := List.getElem?_eq_getElem hkl
      generalize ls[k]'hkl = l at hg
      obtain ⟨g1, g2⟩ := HGet.out k l hg
      obtain ⟨bA, oA, rfl, hba, -, e0, e1, e2, e3, e4, e5⟩ := lease_elem (rB.out.keep hb hb.size) hg
      obtain ⟨bN, oN, rfl, hbn, -, f0, f1, f2, f3, f4, f5⟩ := lease_elem (rN.out.keep hb hb.size) g1
      clear hg g1 hkl
      have hbX : Below wr.heap.size wr (wr.alloc (.cells #[.int .i64 l.Id, .int .i64 l.Token, .string l.Path, .int .i64 l.Made, .int .i64 l.Ends, .int .i64 l.Limit] 32)) := by (repeat (first | (with_reducible exact Below.refl _ _) | (with_reducible assumption) | ((with_reducible refine Below.setCell ?_ ?_ _); rotate_left; focus (first | omega | (simp; done) | (simp; omega))) | ((with_reducible refine Below.alloc ?_ ?_ _); rotate_left; focus (first | omega | (simp; done) | (simp; omega))) | (with_reducible refine Below.drew ?_) | (with_reducible refine below_drewN ?_ _) | (refine Below.trans ?_ (Below.mono (by with_reducible assumption) (by (first | omega | (simp; done) | (simp; omega)))))))
      have BX : Blk (wr.alloc (.cells #[.int .i64 l.Id, .int .i64 l.Token, .string l.Path, .int .i64 l.Made, .int .i64 l.Ends, .int .i64 l.Limit] 32)) wr.heap.size 32 #[.int .i64 l.Id, .int .i64 l.Token, .string l.Path, .int .i64 l.Made, .int .i64 l.Ends, .int .i64 l.Limit] := Blk.new' rfl
      have B9x := B9r.keep hbX
      have hbw2 := hb.trans (hbX.mono hzr)
      have q0 := (hbX.cell (p := ⟨bN, oN + k * 6, none⟩) hbn).trans f0
      have q1 := (hbX.cell (p := ⟨bN, oN + k * 6 + 1, none⟩) hbn).trans f1
      have q2 := (hbX.cell (p := ⟨bN, oN + k * 6 + 2, none⟩) hbn).trans f2
      have q3 := (hbX.cell (p := ⟨bN, oN + k * 6 + 3, none⟩) hbn).trans f3
      have q4 := (hbX.cell (p := ⟨bN, oN + k * 6 + 4, none⟩) hbn).trans f4
      have q5 := (hbX.cell (p := ⟨bN, oN + k * 6 + 5, none⟩) hbn).trans f5
      have hbnx : bN < wr.heap.size := hbn
      have h9b := B9r.lt
      clear f0 f1 f2 f3 f4 f5 hc9
      go_upto_region 12 with fail
      generalize (wr.alloc (.cells #[.int .i64 l.Id, .int .i64 l.Token, .string l.Path, .int .i64 l.Made, .int .i64 l.Ends, .int .i64 l.Limit] 32)) = wx at *
      obtain ⟨b12, hb12⟩ : ∃ b, b = wr.heap.size := ⟨_, rfl⟩
      rw [← hb12] at BX hbnx h9b ⊢
      have hw12 : v5.heap.size ≤ b12 := by omega
      clear hb12 hbX hc3 e0 e1 e2 e3 e4 e5 hba hbn
      obtain ⟨cb, hcb⟩ : ∃ b, (cc != 0 && l.Id == id) = b := ⟨_, rfl⟩
      have HCb := Lib.hid hcb
      rw [hcb] at g2
      have hX : renX cc id l = renY cb cc l := by rw [← hcb]; rfl
      rw [hX] at q0 q1 q2 q3 q4 q5
      clear hcb hX
      have hc12 := BX.cell
      go_cut [69] (fun s69 wy => s69 = .bool cb ∧ wy = wx)
      case first =>
        cases h0 : cc != 0
        · have h := HCb.out
          rw [h0, Bool.false_and] at h
          have HB := Lib.hid h.symm
          clear h g2
          go_wp2_with fail
          go_meet
          exact ⟨by rw [HB.out], rfl⟩
        · cases h1 : l.Id == id
          · have h := HCb.out
            rw [h0, h1, Bool.true_and] at h
            have HB := Lib.hid h.symm
            clear h g2
            go_wp2_with fail
            go_meet
            exact ⟨by rw [HB.out], rfl⟩
          · have h := HCb.out
            rw [h0, h1, Bool.true_and] at h
            have HB := Lib.hid h.symm
            clear h g2
            go_wp2_with fail
            go_meet
            exact ⟨by rw [HB.out], rfl⟩
      case rest =>
      obtain ⟨rfl, hwx⟩ := hcut
      have hwx2 := hwx.symm
      subst hwx2
      clear hwx HCb
      cases cb
      · dsimp only [renY] at q0 q1 q2 q3 q4 q5
        clear g2
        have hc9 := B9x.cell
        have t0 := later_cell q0; have t1 := later_cell q1; have t2 := later_cell q2; have t3 := later_cell q3; have t4 := later_cell q4; have t5 := later_cell q5; have t6 := BX.later; have t7 := B9x.later
        go_upto_region 16 with fail
        refine wp_region_later (by kernel_rfl) (by kernel_rfl) ?_
        repeat (first | go_big_quiet_step (fail) | quiet_step (fail))
        refine wpQuiet_nil ?_
        intro w9 hb9
        go_wp2_with fail
        go_roundw
        case rel => exact ⟨k + 1, by omega, by go_num, hbw2.trans (hb9.mono hbw2.size)⟩
        case measure => simp [intOf]; omega
      · dsimp only [renY, lendL] at q0 q1 q2 q3 q4 q5
        obtain ⟨g3, g4⟩ := g2 rfl
        have hf12 := BX.frozen; have hl12 := BX.lt
        have BZ := BX.set_ 4 (.int .i64 cc)
        have B9z := B9x.far (p := ⟨b12, 4, none⟩) (by simp; omega) (.int .i64 cc)
        have hbz := hbw2.setCell (p := ⟨b12, 4, none⟩) (by simpa using hw12) (.int .i64 cc)
        have z0 := (cell_off (p := ⟨b12, 4, none⟩) (u := .int .i64 cc) q0 (by simp; omega))
        have z1 := (cell_off (p := ⟨b12, 4, none⟩) (u := .int .i64 cc) q1 (by simp; omega))
        have z2 := (cell_off (p := ⟨b12, 4, none⟩) (u := .int .i64 cc) q2 (by simp; omega))
        have z3 := (cell_off (p := ⟨b12, 4, none⟩) (u := .int .i64 cc) q3 (by simp; omega))
        have z4 := (cell_off (p := ⟨b12, 4, none⟩) (u := .int .i64 cc) q4 (by simp; omega))
        have z5 := (cell_off (p := ⟨b12, 4, none⟩) (u := .int .i64 cc) q5 (by simp; omega))
        go_upto_region 16 with fail
        generalize (World.setCell wx ⟨b12, 4, none⟩ (.int .i64 cc)) = wz at *
        clear q0 q1 q2 q3 q4 q5 hc12 hf12 hl12
        have t0 := later_cell z0; have t1 := later_cell z1; have t2 := later_cell z2; have t3 := later_cell z3; have t4 := later_cell z4; have t5 := later_cell z5; have t6 := BZ.later; have t7 := B9z.later
        refine wp_region_later (by kernel_rfl) (by kernel_rfl) ?_
        repeat (first | go_big_quiet_step (fail) | quiet_step (fail))
        refine wpQuiet_nil ?_
        intro w9 hb9
        go_wp2_with fail
        go_roundw
        case rel => exact ⟨k + 1, by omega, by go_num, hbz.trans (hb9.mono hbz.size)⟩
        case measure => simp [intOf]; omega
    · obtain rfl : k = N := by omega
      have hbz := hbw.trans (hb.mono hbw.size)
      go_wp2
      go_ret
      exact ⟨rfl, hbz⟩
end Go.Proofs.YtohfnpohmieknaaDoor

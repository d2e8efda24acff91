/- NextEnd, both sides. -/
import Derived.Test.YtbfnkfaagmjfnaaDoorBookL
set_option linter.unusedSimpArgs false
set_option linter.unusedVariables false
set_option maxRecDepth 20000
namespace Go.Proofs.YtbfnkfaagmjfnaaDoor
open Go.RowKit
def minFrom (m : Int) (ls : List Lease) : Int := ls.foldl (fun m x => match decide (x.Ends < m) with | true => x.Ends | false => m) m
def minE : List Lease → Int
  | [] => -1
  | l :: ls => minFrom l.Ends (l :: ls)
def nextE (ls : List Lease) : Int := match bookOk ls with | true => minE ls | false => -1
theorem minFrom_snoc {m : Int} {ls : List Lease} {k : Nat} {x : Lease} (h : ls[k]? = some x) : minFrom m (ls.take (k + 1)) = match decide (x.Ends < minFrom m (ls.take k)) with | true => x.Ends | false => minFrom m (ls.take k) := by
  rw [take_snoc h]
  unfold minFrom
  rw [List.foldl_append]
  rfl
theorem minFrom_less {m : Int} {ls : List Lease} {k : Nat} {x : Lease} (h : ls[k]? = some x) (hl : decide (x.Ends < minFrom m (ls.take k)) = true) : minFrom m (ls.take (k + 1)) = x.Ends := by rw [minFrom_snoc h, hl]
theorem minFrom_more {m : Int} {ls : List Lease} {k : Nat} {x : Lease} (h : ls[k]? = some x) (hl : decide (x.Ends < minFrom m (ls.take k)) = false) : minFrom m (ls.take (k + 1)) = minFrom m (ls.take k) := by rw [minFrom_snoc h, hl]
theorem minE_all {ls : List Lease} {l : Lease} {k : Nat} (h : ls[0]? = some l) (hk : ls.length ≤ k) : minE ls = minFrom l.Ends (ls.take k) := by
  rw [List.take_of_length_le hk]
  cases ls with
  | nil => cases h
  | cons a tl => simp at h; subst h; rfl
theorem minFrom_one {ls : List Lease} {l : Lease} (h : ls[0]? = some l) : minFrom l.Ends (ls.take 1) = l.Ends := by
  cases ls with
  | nil => cases h
  | cons a tl =>
    simp at h; subst h
    have hd : decide (a.Ends < a.Ends) = false := by simp
    simp [minFrom]
theorem nextE_bad {ls : List Lease} (h : bookOk ls = false) : nextE ls = -1 := by unfold nextE; rw [h]
theorem nextE_nil {ls : List Lease} (h : ls.length = 0) : nextE ls = -1 := by
  have : ls = [] := List.length_eq_zero_iff.1 h
  subst this
  unfold nextE
  cases bookOk [] <;> rfl
theorem nextE_ok {ls : List Lease} (h : bookOk ls = true) : nextE ls = minE ls := by unfold nextE; rw [h]
theorem cmp_less (a b : Int) : decide (cmpI a b < 0) = decide (a < b) := by
  unfold cmpI
  by_cases h : a < b
  · rw [if_pos h]; simp [h]
  · rw [if_neg h]; by_cases h2 : b < a <;> simp [h, h2]
theorem impl_NextEnd_1 (x y : Lease) (w : World) : Calls Tryd.prog 38 #[.agg #[.int .i64 x.Id, .int .i64 x.Token, .string x.Path, .int .i64 x.Made, .int .i64 x.Ends, .int .i64 x.Limit], .agg #[.int .i64 y.Id, .int .i64 y.Token, .string y.Path, .int .i64 y.Made, .int .i64 y.Ends, .int .i64 y.Limit]] w fun e w' => e = .returned (.int .i64 (cmpI x.Ends y.Ends)) ∧ Below w.heap.size w w' := by
  go_enter Tryd.func38, Tryd.ntmps38
  go_wp2_with (go_at_call 39; refine (cmp_Compare _ _ _).mono ?_; rintro e w' ⟨rfl, rfl⟩)
  go_ret
  exact ⟨rfl, by (repeat (first | (with_reducible exact Below.refl _ _) | (with_reducible assumption) | ((with_reducible refine Below.setCell ?_ ?_ _); rotate_left; focus (first | omega | (simp; done) | (simp; omega))) | ((with_reducible refine Below.alloc ?_ ?_ _); rotate_left; focus (first | omega | (simp; done) | (simp; omega))) | (with_reducible refine Below.drew ?_) | (with_reducible refine below_drewN ?_ _) | (refine Below.trans ?_ (Below.mono (by with_reducible assumption) (by (first | omega | (simp; done) | (simp; omega)))))))⟩
set_option maxHeartbeats 3200000 in
theorem slices_MinFunc_Lease (A : Option Addr) (c : Nat) (ls : List Lease) (w : World) (hr : SlRd LeaseR w w.heap.size (.slice A ls.length c) ls) (hml : ls.length ≤ 1048576) (h0 : 0 < ls.length) :
    Calls Tryd.prog 37 #[.slice A ls.length c, .func (.func 38) #[] #[]] w fun e w' => ∃ l : Lease, e = .returned (.agg #[.int .i64 l.Id, .int .i64 l.Token, .string l.Path, .int .i64 l.Made, .int .i64 l.Ends, .int .i64 l.Limit]) ∧ l.Ends = minE ls ∧ Below w.heap.size w w' := by
  have hl0 : ls[0]? = some ls[0] := List.getElem?_eq_getElem h0
  generalize ls[0]'h0 = f at hl0
  obtain ⟨b0, off0, rfl, hab0, hps0, hr0, hr1, hr2, hr3, hr4, hr5⟩ := lease_elem hr hl0
  simp only [Nat.zero_mul, Nat.add_zero] at hr0 hr1 hr2 hr3 hr4 hr5
  have HF := Lib.hid hl0
  clear hl0
  generalize hn : ls.length = n at *
  have Hn := Lib.hid hn
  clear hn
  have hd1 : decide ((n : Int) < 1) = false := by simp; omega
  go_enter Tryd.func37, Tryd.ntmps37
  go_wp2
  go_loopw [6] (fun i wr => ∃ (k : Nat) (m : Lease), 0 < k ∧ k ≤ n ∧ i = .int .i64 k ∧ Below w.heap.size w wr ∧ Blk wr w.heap.size 26 #[.int .i64 0, .int .i64 0, .string ⟨#[]⟩, .int .i64 0, .int .i64 0, .int .i64 0] ∧ Blk wr (w.heap.size + 1) 26 #[.int .i64 m.Id, .int .i64 m.Token, .string m.Path, .int .i64 m.Made, .int .i64 m.Ends, .int .i64 m.Limit] ∧ Hid (m.Ends = minFrom f.Ends (ls.take k))) (fun i _ => n - (intOf i).toNat)
  case atStart => exact ⟨1, f, by omega, h0, rfl, by (repeat (first | (with_reducible exact Below.refl _ _) | (with_reducible assumption) | ((with_reducible refine Below.setCell ?_ ?_ _); rotate_left; focus (first | omega | (simp; done) | (simp; omega))) | ((with_reducible refine Below.alloc ?_ ?_ _); rotate_left; focus (first | omega | (simp; done) | (simp; omega))) | (with_reducible refine Below.drew ?_) | (with_reducible refine below_drewN ?_ _) | (refine Below.trans ?_ (Below.mono (by with_reducible assumption) (by (first | omega | (simp; done) | (simp; omega))))))), by (repeat (first | (with_reducible assumption) | ((with_reducible refine Blk.new' ?_); focus (simp; done)) | (with_reducible refine Blk.alloc ?_ _) | (with_reducible refine Blk.drew ?_) | (with_reducible refine Blk.drewN ?_ _) | ((with_reducible refine Blk.far ?_ ?_ _); rotate_left; focus (first | omega | (simp; done) | (simp; omega))) | (refine Blk.keep ?_ (by with_reducible assumption)) | (refine Blk.below ?_ (by with_reducible assumption) (by (first | omega | (simp; done) | (simp; omega)))))), by (repeat (first | (with_reducible assumption) | ((with_reducible refine Blk.new' ?_); focus (simp; done)) | (with_reducible refine Blk.alloc ?_ _) | (with_reducible refine Blk.drew ?_) | (with_reducible refine Blk.drewN ?_ _) | ((with_reducible refine Blk.far ?_ ?_ _); rotate_left; focus (first | omega | (simp; done) | (simp; omega))) | (refine Blk.keep ?_ (by with_reducible assumption)) | (refine Blk.below ?_ (by with_reducible assumption) (by (first | omega | (simp; done) | (simp; omega)))))), Lib.hid (minFrom_one HF.out).symm⟩
  case round =>
    obtain ⟨k, m, hk0, hk, rfl, hb, BK0, BK1, hinv⟩ := hrel
    have hc0 := BK0.cell; have hf0 := BK0.frozen; have hl0 := BK0.lt; have hc1 := BK1.cell; have hf1 := BK1.frozen; have hl1 := BK1.lt
    by_cases hlt : k < n
    · have hlx : k < ls.length := by rw [Hn.out]; exact hlt
      have HG := Lib.hid (List.getElem?_eq_getElem hlx)
      generalize ls[k]'hlx = x at HG
      clear hlx
      obtain ⟨b1, off1, he1, hab, hps, hq0, hq1, hq2, hq3, hq4, hq5⟩ := lease_elem (hr.below hb (Nat.le_refl _)) HG.out
      simp only [Option.some.injEq, Addr.mk.injEq, and_true] at he1
      obtain ⟨rfl, rfl⟩ := he1
      have hzr := hb.size
      have HI := Lib.hid (fun (n' : Lt wr) => impl_NextEnd_1 x m (later _ n'))
      have HLT := Lib.hid (cmp_less x.Ends m.Ends)
      cases hc : decide (cmpI x.Ends m.Ends < 0)
      · have HX : Hid (m.Ends = minFrom f.Ends (ls.take (k + 1))) := Lib.hid (by rw [minFrom_more HG.out (by rw [← hinv.out, ← HLT.out, hc]), hinv.out])
        go_wp2
        have q0 := BK0.later; have q1 := BK1.later
        have r0 := later_cell hq0; have r1 := later_cell hq1; have r2 := later_cell hq2; have r3 := later_cell hq3; have r4 := later_cell hq4; have r5 := later_cell hq5
        refine wp_region_later (by kernel_rfl) (by kernel_rfl) ?_
        repeat (first | go_big_quiet_step ((go_at_call 38; exact Calls.later_of (HI.out _))) | quiet_step ((go_at_call 38; exact Calls.later_of (HI.out _))))
        refine wpQuiet_nil ?_
        intro w3 hb3
        go_wp2
        go_roundw
        case rel => exact ⟨k + 1, m, by omega, by omega, by go_num, by (repeat (first | (with_reducible exact Below.refl _ _) | (with_reducible assumption) | ((with_reducible refine Below.setCell ?_ ?_ _); rotate_left; focus (first | omega | (simp; done) | (simp; omega))) | ((with_reducible refine Below.alloc ?_ ?_ _); rotate_left; focus (first | omega | (simp; done) | (simp; omega))) | (with_reducible refine Below.drew ?_) | (with_reducible refine below_drewN ?_ _) | (refine Below.trans ?_ (Below.mono (by with_reducible assumption) (by (first | omega | (simp; done) | (simp; omega))))))), BK0.keep hb3, BK1.keep hb3, HX⟩
        case measure => simp [intOf]; omega
      · have HX : Hid (x.Ends = minFrom f.Ends (ls.take (k + 1))) := Lib.hid (by rw [minFrom_less HG.out (by rw [← hinv.out, ← HLT.out, hc])])
        go_wp2
        have q0 := BK0.later; have q1 := BK1.later
        have r0 := later_cell hq0; have r1 := later_cell hq1; have r2 := later_cell hq2; have r3 := later_cell hq3; have r4 := later_cell hq4; have r5 := later_cell hq5
        refine wp_region_later (by kernel_rfl) (by kernel_rfl) ?_
        repeat (first | go_big_quiet_step ((go_at_call 38; exact Calls.later_of (HI.out _))) | quiet_step ((go_at_call 38; exact Calls.later_of (HI.out _))))
        refine wpQuiet_nil ?_
        intro w3 hb3
        have hz3 := hb3.size
        replace BK0 := BK0.keep hb3; replace BK1 := BK1.keep hb3
        replace hc0 := BK0.cell; replace hf0 := BK0.frozen; replace hl0 := BK0.lt; replace hc1 := BK1.cell; replace hf1 := BK1.frozen; replace hl1 := BK1.lt
        have hy0 := (hb3.cell (World.block_lt_of_cell? _ _ hq0)).trans hq0; have hy1 := (hb3.cell (World.block_lt_of_cell? _ _ hq1)).trans hq1; have hy2 := (hb3.cell (World.block_lt_of_cell? _ _ hq2)).trans hq2; have hy3 := (hb3.cell (World.block_lt_of_cell? _ _ hq3)).trans hq3; have hy4 := (hb3.cell (World.block_lt_of_cell? _ _ hq4)).trans hq4; have hy5 := (hb3.cell (World.block_lt_of_cell? _ _ hq5)).trans hq5
        go_wp2
        go_roundw
        case rel =>
          refine ⟨k + 1, x, by omega, by omega, by go_num, by (repeat (first | (with_reducible exact Below.refl _ _) | (with_reducible assumption) | ((with_reducible refine Below.setCell ?_ ?_ _); rotate_left; focus (first | omega | (simp; done) | (simp; omega))) | ((with_reducible refine Below.alloc ?_ ?_ _); rotate_left; focus (first | omega | (simp; done) | (simp; omega))) | (with_reducible refine Below.drew ?_) | (with_reducible refine below_drewN ?_ _) | (refine Below.trans ?_ (Below.mono (by with_reducible assumption) (by (first | omega | (simp; done) | (simp; omega))))))), by (repeat (first | (with_reducible assumption) | ((with_reducible refine Blk.new' ?_); focus (simp; done)) | (with_reducible refine Blk.alloc ?_ _) | (with_reducible refine Blk.drew ?_) | (with_reducible refine Blk.drewN ?_ _) | ((with_reducible refine Blk.far ?_ ?_ _); rotate_left; focus (first | omega | (simp; done) | (simp; omega))) | (refine Blk.keep ?_ (by with_reducible assumption)) | (refine Blk.below ?_ (by with_reducible assumption) (by (first | omega | (simp; done) | (simp; omega)))))), ?_, HX⟩
          have hB := (((((BK1.set_ 0 (.int .i64 x.Id)).set_ 1 (.int .i64 x.Token)).set_ 2 (.string x.Path)).set_ 3 (.int .i64 x.Made)).set_ 4 (.int .i64 x.Ends)).set_ 5 (.int .i64 x.Limit)
          simpa using hB
        case measure => simp [intOf]; omega
    · obtain rfl : k = n := by omega
      have HD : Hid (m.Ends = minE ls) := Lib.hid (by rw [hinv.out, minE_all HF.out (by rw [Hn.out]; exact Nat.le_refl _)])
      go_wp2
      refine bodyPost_ret (v := .agg #[.int .i64 m.Id, .int .i64 m.Token, .string m.Path, .int .i64 m.Made, .int .i64 m.Ends, .int .i64 m.Limit]) (by simp [results, Tryd.results37, go_sem, hc0, hf0]) rfl ⟨m, rfl, HD.out, by (repeat (first | (with_reducible exact Below.refl _ _) | (with_reducible assumption) | ((with_reducible refine Below.setCell ?_ ?_ _); rotate_left; focus (first | omega | (simp; done) | (simp; omega))) | ((with_reducible refine Below.alloc ?_ ?_ _); rotate_left; focus (first | omega | (simp; done) | (simp; omega))) | (with_reducible refine Below.drew ?_) | (with_reducible refine below_drewN ?_ _) | (refine Below.trans ?_ (Below.mono (by with_reducible assumption) (by (first | omega | (simp; done) | (simp; omega)))))))⟩
set_option maxHeartbeats 3200000 in
theorem impl_NextEndL (cs : List Value) (f : Book) (w : World) (h : BookR.Rd w w.heap.size cs f) (hm : BookR.sz f ≤ 1048576) (hmx : MaxLenInt w) :
    Calls Tryd.prog 22 #[.agg cs.toArray] w fun e w' => e = .returned (.int .i64 (nextE f.Leases)) ∧ Below w.heap.size w w' := by
  obtain ⟨v0, rfl, q0⟩ := rd_Book (_root_.id h)
  obtain ⟨A0, c0, rfl⟩ := q0.form
  have HM := Lib.hid (fun (w' : World) (hb : Below w.heap.size w w') => hmx.keep hb)
  have HOk := Lib.hid (fun (w' : World) (h : BookR.Rd w' w'.heap.size [.slice A0 f.Leases.length c0] f) (hx : MaxLenInt w') => impl_isBookL _ f w' h hm hx)
  have HR := Lib.hid (fun (w' : World) (hb : Below w.heap.size w w') (hz : w.heap.size ≤ w'.heap.size) => BookR.rd_keep h hb hz)
  have hml := book_len hm
  have HMin := Lib.hid (fun (w' : World) (hb : Below w.heap.size w w') (hz : w.heap.size ≤ w'.heap.size) (h0 : 0 < f.Leases.length) => slices_MinFunc_Lease A0 c0 f.Leases w' (q0.keep hb hz) hml h0)
  clear h q0 hm hmx
  generalize hT : f.Leases = ls at *
  generalize hn : ls.length = n at *
  have Hn := Lib.hid hn
  clear hn hT
  cases hok : bookOk ls
  · have HD := Lib.hid (nextE_bad hok)
    rw [hok] at HOk
    clear hok
    go_enter Tryd.func22, Tryd.ntmps22
    go_wp2_with fail
    refine (HOk.out _ (HR.out _ (by (repeat (first | (with_reducible exact Below.refl _ _) | (with_reducible assumption) | ((with_reducible refine Below.setCell ?_ ?_ _); rotate_left; focus (first | omega | (simp; done) | (simp; omega))) | ((with_reducible refine Below.alloc ?_ ?_ _); rotate_left; focus (first | omega | (simp; done) | (simp; omega))) | (with_reducible refine Below.drew ?_) | (with_reducible refine below_drewN ?_ _) | (refine Below.trans ?_ (Below.mono (by with_reducible assumption) (by (first | omega | (simp; done) | (simp; omega)))))))) (by first | omega | (simp; done) | (simp; omega))) (HM.out _ (by (repeat (first | (with_reducible exact Below.refl _ _) | (with_reducible assumption) | ((with_reducible refine Below.setCell ?_ ?_ _); rotate_left; focus (first | omega | (simp; done) | (simp; omega))) | ((with_reducible refine Below.alloc ?_ ?_ _); rotate_left; focus (first | omega | (simp; done) | (simp; omega))) | (with_reducible refine Below.drew ?_) | (with_reducible refine below_drewN ?_ _) | (refine Below.trans ?_ (Below.mono (by with_reducible assumption) (by (first | omega | (simp; done) | (simp; omega)))))))))).mono ?_
    rintro e w1 ⟨rfl, hb1⟩
    have hz1 := hb1.size; try simp at hz1
    go_wp2
    go_ret
    exact ⟨ret_int (by rw [HD.out]), by (repeat (first | (with_reducible exact Below.refl _ _) | (with_reducible assumption) | ((with_reducible refine Below.setCell ?_ ?_ _); rotate_left; focus (first | omega | (simp; done) | (simp; omega))) | ((with_reducible refine Below.alloc ?_ ?_ _); rotate_left; focus (first | omega | (simp; done) | (simp; omega))) | (with_reducible refine Below.drew ?_) | (with_reducible refine below_drewN ?_ _) | (refine Below.trans ?_ (Below.mono (by with_reducible assumption) (by (first | omega | (simp; done) | (simp; omega)))))))⟩
  have HOK := Lib.hid hok
  rw [hok] at HOk
  clear hok
  by_cases h0 : n = 0
  · have HD := Lib.hid (nextE_nil (ls := ls) (by rw [Hn.out]; exact h0))
    subst h0
    go_enter Tryd.func22, Tryd.ntmps22
    go_wp2_with fail
    refine (HOk.out _ (HR.out _ (by (repeat (first | (with_reducible exact Below.refl _ _) | (with_reducible assumption) | ((with_reducible refine Below.setCell ?_ ?_ _); rotate_left; focus (first | omega | (simp; done) | (simp; omega))) | ((with_reducible refine Below.alloc ?_ ?_ _); rotate_left; focus (first | omega | (simp; done) | (simp; omega))) | (with_reducible refine Below.drew ?_) | (with_reducible refine below_drewN ?_ _) | (refine Below.trans ?_ (Below.mono (by with_reducible assumption) (by (first | omega | (simp; done) | (simp; omega)))))))) (by first | omega | (simp; done) | (simp; omega))) (HM.out _ (by (repeat (first | (with_reducible exact Below.refl _ _) | (with_reducible assumption) | ((with_reducible refine Below.setCell ?_ ?_ _); rotate_left; focus (first | omega | (simp; done) | (simp; omega))) | ((with_reducible refine Below.alloc ?_ ?_ _); rotate_left; focus (first | omega | (simp; done) | (simp; omega))) | (with_reducible refine Below.drew ?_) | (with_reducible refine below_drewN ?_ _) | (refine Below.trans ?_ (Below.mono (by with_reducible assumption) (by (first | omega | (simp; done) | (simp; omega)))))))))).mono ?_
    rintro e w1 ⟨rfl, hb1⟩
    have hz1 := hb1.size; try simp at hz1
    have BK0 : Blk w1 w.heap.size 36 #[.slice A0 0 c0] := by (repeat (first | (with_reducible assumption) | ((with_reducible refine Blk.new' ?_); focus (simp; done)) | (with_reducible refine Blk.alloc ?_ _) | (with_reducible refine Blk.drew ?_) | (with_reducible refine Blk.drewN ?_ _) | ((with_reducible refine Blk.far ?_ ?_ _); rotate_left; focus (first | omega | (simp; done) | (simp; omega))) | (refine Blk.keep ?_ (by with_reducible assumption)) | (refine Blk.below ?_ (by with_reducible assumption) (by (first | omega | (simp; done) | (simp; omega))))))
    have hc0 := BK0.cell; have hf0 := BK0.frozen; have hl0 := BK0.lt
    go_wp2
    go_ret
    exact ⟨ret_int (by rw [HD.out]), by (repeat (first | (with_reducible exact Below.refl _ _) | (with_reducible assumption) | ((with_reducible refine Below.setCell ?_ ?_ _); rotate_left; focus (first | omega | (simp; done) | (simp; omega))) | ((with_reducible refine Below.alloc ?_ ?_ _); rotate_left; focus (first | omega | (simp; done) | (simp; omega))) | (with_reducible refine Below.drew ?_) | (with_reducible refine below_drewN ?_ _) | (refine Below.trans ?_ (Below.mono (by with_reducible assumption) (by (first | omega | (simp; done) | (simp; omega)))))))⟩
  have HD := Lib.hid (nextE_ok HOK.out)
  have h1 : 0 < n := by omega
  have hd : ((n : Int) == 0) = false := by rw [beq_eq_false_iff_ne]; omega
  clear h0
  go_enter Tryd.func22, Tryd.ntmps22
  go_wp2_with fail
  refine (HOk.out _ (HR.out _ (by (repeat (first | (with_reducible exact Below.refl _ _) | (with_reducible assumption) | ((with_reducible refine Below.setCell ?_ ?_ _); rotate_left; focus (first | omega | (simp; done) | (simp; omega))) | ((with_reducible refine Below.alloc ?_ ?_ _); rotate_left; focus (first | omega | (simp; done) | (simp; omega))) | (with_reducible refine Below.drew ?_) | (with_reducible refine below_drewN ?_ _) | (refine Below.trans ?_ (Below.mono (by with_reducible assumption) (by (first | omega | (simp; done) | (simp; omega)))))))) (by first | omega | (simp; done) | (simp; omega))) (HM.out _ (by (repeat (first | (with_reducible exact Below.refl _ _) | (with_reducible assumption) | ((with_reducible refine Below.setCell ?_ ?_ _); rotate_left; focus (first | omega | (simp; done) | (simp; omega))) | ((with_reducible refine Below.alloc ?_ ?_ _); rotate_left; focus (first | omega | (simp; done) | (simp; omega))) | (with_reducible refine Below.drew ?_) | (with_reducible refine below_drewN ?_ _) | (refine Below.trans ?_ (Below.mono (by with_reducible assumption) (by (first | omega | (simp; done) | (simp; omega)))))))))).mono ?_
  rintro e w1 ⟨rfl, hb1⟩
  have hz1 := hb1.size; try simp at hz1
  have BK0 : Blk w1 w.heap.size 36 #[.slice A0 n c0] := by (repeat (first | (with_reducible assumption) | ((with_reducible refine Blk.new' ?_); focus (simp; done)) | (with_reducible refine Blk.alloc ?_ _) | (with_reducible refine Blk.drew ?_) | (with_reducible refine Blk.drewN ?_ _) | ((with_reducible refine Blk.far ?_ ?_ _); rotate_left; focus (first | omega | (simp; done) | (simp; omega))) | (refine Blk.keep ?_ (by with_reducible assumption)) | (refine Blk.below ?_ (by with_reducible assumption) (by (first | omega | (simp; done) | (simp; omega))))))
  have hc0 := BK0.cell; have hf0 := BK0.frozen; have hl0 := BK0.lt
  go_wp2_with fail
  refine (HMin.out _ (by (repeat (first | (with_reducible exact Below.refl _ _) | (with_reducible assumption) | ((with_reducible refine Below.setCell ?_ ?_ _); rotate_left; focus (first | omega | (simp; done) | (simp; omega))) | ((with_reducible refine Below.alloc ?_ ?_ _); rotate_left; focus (first | omega | (simp; done) | (simp; omega))) | (with_reducible refine Below.drew ?_) | (with_reducible refine below_drewN ?_ _) | (refine Below.trans ?_ (Below.mono (by with_reducible assumption) (by (first | omega | (simp; done) | (simp; omega)))))))) (by first | omega | (simp; done) | (simp; omega)) h1).mono ?_
  rintro e w2 ⟨l, rfl, hl, hb2⟩
  have HL := Lib.hid hl
  clear hl
  have hfd : ∀ w : World, (Instr.field 26 (.agg #[.int .i64 l.Id, .int .i64 l.Token, .string l.Path, .int .i64 l.Made, .int .i64 l.Ends, .int .i64 l.Limit]) 4).run Tryd.prog w = .ok (.int .i64 l.Ends) w := fun _ => by kernel_rfl
  go_wp2
  go_ret
  exact ⟨ret_int (by rw [HD.out, HL.out]), by (repeat (first | (with_reducible exact Below.refl _ _) | (with_reducible assumption) | ((with_reducible refine Below.setCell ?_ ?_ _); rotate_left; focus (first | omega | (simp; done) | (simp; omega))) | ((with_reducible refine Below.alloc ?_ ?_ _); rotate_left; focus (first | omega | (simp; done) | (simp; omega))) | (with_reducible refine Below.drew ?_) | (with_reducible refine below_drewN ?_ _) | (refine Below.trans ?_ (Below.mono (by with_reducible assumption) (by (first | omega | (simp; done) | (simp; omega)))))))⟩
set_option maxHeartbeats 3200000 in
theorem spec_NextEndL (cs : List Value) (f : Book) (w : World) (h : BookR.Rd w w.heap.size cs f) (hm : BookR.sz f ≤ 1048576) :
    Calls Tryd.prog 21 #[.agg cs.toArray] w fun e w' => e = .returned (.int .i64 (nextE f.Leases)) ∧ Below w.heap.size w w' := by
  obtain ⟨v0, rfl, q0⟩ := rd_Book (_root_.id h)
  obtain ⟨A0, c0, rfl⟩ := q0.form
  have HOk := Lib.hid (fun (w' : World) (h : BookR.Rd w' w'.heap.size [.slice A0 f.Leases.length c0] f) => spec_BookOkL _ f w' h hm)
  have HR := Lib.hid (fun (w' : World) (hb : Below w.heap.size w w') (hz : w.heap.size ≤ w'.heap.size) => BookR.rd_keep h hb hz)
  have HRs := Lib.hid (fun (w' : World) (hb : Below w.heap.size w w') => q0.below hb (Nat.le_refl _))
  have hml := book_len hm
  clear h q0 hm
  generalize hT : f.Leases = ls at *
  generalize hn : ls.length = n at *
  have Hn := Lib.hid hn
  clear hn hT
  cases hok : bookOk ls
  · have HD := Lib.hid (nextE_bad hok)
    rw [hok] at HOk
    clear hok
    go_enter Tryd.func21, Tryd.ntmps21
    go_wp2_with fail
    refine (HOk.out _ (HR.out _ (by (repeat (first | (with_reducible exact Below.refl _ _) | (with_reducible assumption) | ((with_reducible refine Below.setCell ?_ ?_ _); rotate_left; focus (first | omega | (simp; done) | (simp; omega))) | ((with_reducible refine Below.alloc ?_ ?_ _); rotate_left; focus (first | omega | (simp; done) | (simp; omega))) | (with_reducible refine Below.drew ?_) | (with_reducible refine below_drewN ?_ _) | (refine Below.trans ?_ (Below.mono (by with_reducible assumption) (by (first | omega | (simp; done) | (simp; omega)))))))) (by first | omega | (simp; done) | (simp; omega)))).mono ?_
    rintro e w1 ⟨rfl, hb1⟩
    have hz1 := hb1.size; try simp at hz1
    go_wp2
    go_ret
    exact ⟨ret_int (by rw [HD.out]), by (repeat (first | (with_reducible exact Below.refl _ _) | (with_reducible assumption) | ((with_reducible refine Below.setCell ?_ ?_ _); rotate_left; focus (first | omega | (simp; done) | (simp; omega))) | ((with_reducible refine Below.alloc ?_ ?_ _); rotate_left; focus (first | omega | (simp; done) | (simp; omega))) | (with_reducible refine Below.drew ?_) | (with_reducible refine below_drewN ?_ _) | (refine Below.trans ?_ (Below.mono (by with_reducible assumption) (by (first | omega | (simp; done) | (simp; omega)))))))⟩
  have HOK := Lib.hid hok
  rw [hok] at HOk
  clear hok
  by_cases h0 : n = 0
  · have HD := Lib.hid (nextE_nil (ls := ls) (by rw [Hn.out]; exact h0))
    subst h0
    go_enter Tryd.func21, Tryd.ntmps21
    go_wp2_with fail
    refine (HOk.out _ (HR.out _ (by (repeat (first | (with_reducible exact Below.refl _ _) | (with_reducible assumption) | ((with_reducible refine Below.setCell ?_ ?_ _); rotate_left; focus (first | omega | (simp; done) | (simp; omega))) | ((with_reducible refine Below.alloc ?_ ?_ _); rotate_left; focus (first | omega | (simp; done) | (simp; omega))) | (with_reducible refine Below.drew ?_) | (with_reducible refine below_drewN ?_ _) | (refine Below.trans ?_ (Below.mono (by with_reducible assumption) (by (first | omega | (simp; done) | (simp; omega)))))))) (by first | omega | (simp; done) | (simp; omega)))).mono ?_
    rintro e w1 ⟨rfl, hb1⟩
    have hz1 := hb1.size; try simp at hz1
    have BK0 : Blk w1 w.heap.size 36 #[.slice A0 0 c0] := by (repeat (first | (with_reducible assumption) | ((with_reducible refine Blk.new' ?_); focus (simp; done)) | (with_reducible refine Blk.alloc ?_ _) | (with_reducible refine Blk.drew ?_) | (with_reducible refine Blk.drewN ?_ _) | ((with_reducible refine Blk.far ?_ ?_ _); rotate_left; focus (first | omega | (simp; done) | (simp; omega))) | (refine Blk.keep ?_ (by with_reducible assumption)) | (refine Blk.below ?_ (by with_reducible assumption) (by (first | omega | (simp; done) | (simp; omega))))))
    have hc0 := BK0.cell; have hf0 := BK0.frozen; have hl0 := BK0.lt
    go_wp2
    go_ret
    exact ⟨ret_int (by rw [HD.out]), by (repeat (first | (with_reducible exact Below.refl _ _) | (with_reducible assumption) | ((with_reducible refine Below.setCell ?_ ?_ _); rotate_left; focus (first | omega | (simp; done) | (simp; omega))) | ((with_reducible refine Below.alloc ?_ ?_ _); rotate_left; focus (first | omega | (simp; done) | (simp; omega))) | (with_reducible refine Below.drew ?_) | (with_reducible refine below_drewN ?_ _) | (refine Below.trans ?_ (Below.mono (by with_reducible assumption) (by (first | omega | (simp; done) | (simp; omega)))))))⟩
  have HD := Lib.hid (nextE_ok HOK.out)
  have h1 : 0 < n := by omega
  have hd : ((n : Int) == 0) = false := by rw [beq_eq_false_iff_ne]; omega
  clear h0
  go_enter Tryd.func21, Tryd.ntmps21
  go_wp2_with fail
  refine (HOk.out _ (HR.out _ (by (repeat (first | (with_reducible exact Below.refl _ _) | (with_reducible assumption) | ((with_reducible refine Below.setCell ?_ ?_ _); rotate_left; focus (first | omega | (simp; done) | (simp; omega))) | ((with_reducible refine Below.alloc ?_ ?_ _); rotate_left; focus (first | omega | (simp; done) | (simp; omega))) | (with_reducible refine Below.drew ?_) | (with_reducible refine below_drewN ?_ _) | (refine Below.trans ?_ (Below.mono (by with_reducible assumption) (by (first | omega | (simp; done) | (simp; omega)))))))) (by first | omega | (simp; done) | (simp; omega)))).mono ?_
  rintro e w1 ⟨rfl, hb1⟩
  have hz1 := hb1.size; try simp at hz1
  have BK0 : Blk w1 w.heap.size 36 #[.slice A0 n c0] := by (repeat (first | (with_reducible assumption) | ((with_reducible refine Blk.new' ?_); focus (simp; done)) | (with_reducible refine Blk.alloc ?_ _) | (with_reducible refine Blk.drew ?_) | (with_reducible refine Blk.drewN ?_ _) | ((with_reducible refine Blk.far ?_ ?_ _); rotate_left; focus (first | omega | (simp; done) | (simp; omega))) | (refine Blk.keep ?_ (by with_reducible assumption)) | (refine Blk.below ?_ (by with_reducible assumption) (by (first | omega | (simp; done) | (simp; omega))))))
  have hc0 := BK0.cell; have hf0 := BK0.frozen; have hl0 := BK0.lt
  have hbw : Below w.heap.size w w1 := by (repeat (first | (with_reducible exact Below.refl _ _) | (with_reducible assumption) | ((with_reducible refine Below.setCell ?_ ?_ _); rotate_left; focus (first | omega | (simp; done) | (simp; omega))) | ((with_reducible refine Below.alloc ?_ ?_ _); rotate_left; focus (first | omega | (simp; done) | (simp; omega))) | (with_reducible refine Below.drew ?_) | (with_reducible refine below_drewN ?_ _) | (refine Below.trans ?_ (Below.mono (by with_reducible assumption) (by (first | omega | (simp; done) | (simp; omega)))))))
  have hlx0 : 0 < ls.length := by rw [Hn.out]; exact h1
  have HF := Lib.hid (List.getElem?_eq_getElem hlx0)
  generalize ls[0]'hlx0 = f0 at HF
  clear hlx0
  obtain ⟨b, off, rfl, hab, hps, hr0, hr1, hr2, hr3, hr4, hr5⟩ := lease_elem (HRs.out _ hbw) HF.out
  simp only [Nat.zero_mul, Nat.add_zero] at hr4
  clear hr0 hr1 hr2 hr3 hr5 hps
  go_wp2
  go_loop [3, 4] (fun m i => ∃ k : Nat, k ≤ n ∧ i = .int .i64 k ∧ m = .int .i64 (minFrom f0.Ends (ls.take k))) (fun _ i => n - (intOf i).toNat)
  case atStart => exact ⟨0, Nat.zero_le _, rfl, rfl⟩
  case round =>
    obtain ⟨k, hk, rfl, rfl⟩ := hrel
    by_cases hlt : k < n
    · have hlx : k < ls.length := by rw [Hn.out]; exact hlt
      have HG := Lib.hid (List.getElem?_eq_getElem hlx)
      generalize ls[k]'hlx = x at HG
      clear hlx
      obtain ⟨b1, off1, he1, -, hps, hq0, hq1, hq2, hq3, hq4, hq5⟩ := lease_elem (HRs.out _ hbw) HG.out
      simp only [Option.some.injEq, Addr.mk.injEq, and_true] at he1
      obtain ⟨rfl, rfl⟩ := he1
      cases hc : decide (x.Ends < minFrom f0.Ends (ls.take k))
      · have HX := Lib.hid (minFrom_more HG.out hc)
        go_wp2
        go_round
        case rel => exact ⟨k + 1, by omega, by go_num, by rw [HX.out]⟩
        case measure => simp [intOf]; omega
      · have HX := Lib.hid (minFrom_less HG.out hc)
        go_wp2
        go_round
        case rel => exact ⟨k + 1, by omega, by go_num, by rw [HX.out]⟩
        case measure => simp [intOf]; omega
    · obtain rfl : k = n := by omega
      have HX : Hid (minE ls = minFrom f0.Ends (ls.take k)) := Lib.hid (minE_all HF.out (by rw [Hn.out]; exact Nat.le_refl _))
      go_wp2
      go_ret
      exact ⟨ret_int (by rw [HD.out, HX.out]), by (repeat (first | (with_reducible exact Below.refl _ _) | (with_reducible assumption) | ((with_reducible refine Below.setCell ?_ ?_ _); rotate_left; focus (first | omega | (simp; done) | (simp; omega))) | ((with_reducible refine Below.alloc ?_ ?_ _); rotate_left; focus (first | omega | (simp; done) | (simp; omega))) | (with_reducible refine Below.drew ?_) | (with_reducible refine below_drewN ?_ _) | (refine Below.trans ?_ (Below.mono (by with_reducible assumption) (by (first | omega | (simp; done) | (simp; omega)))))))⟩
end Go.Proofs.YtbfnkfaagmjfnaaDoor

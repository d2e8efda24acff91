/- advance of the program. -/
import Derived.Test.YthahnaigdoiddaaPairC
import Derived.Test.YthahnaigdoiddaaImplStop
set_option linter.unusedSimpArgs false
set_option linter.unusedVariables false
set_option maxRecDepth 20000
namespace Go.Proofs.Ythahnaigdoiddaa
open Go.RowKit
theorem Calls.veiled {P : Program} {f : FuncId} {args : Array Value} {w : World} {v : Value} (h : Calls P f args w fun e w' => e = .returned v ∧ w = w') : Calls P f args w fun e w' => e = .returned v ∧ Below w.heap.size w w' := h.mono fun _ _ ⟨h1, h2⟩ => ⟨h1, h2 ▸ Below.refl _ _⟩
set_option maxHeartbeats 3200000 in
theorem impl_advance (cs : List Value) (c : Clock) (now : Int) (w : World) (h : ClockR.Rd w w.heap.size cs c) (hm : ClockR.sz c ≤ 1048576) (hok : clockOk c.Now c.Timers = true) :
    Calls Try.prog 24 #[.agg cs.toArray, .int .i64 now] w fun e w' => ∃ cs' v, e = .returned (.tuple #[.agg cs'.toArray, v]) ∧ PairC w' w.heap.size cs' (advC c now) v (advI c now) ∧ Below w.heap.size w w' := by
  obtain ⟨v0, rfl, q0⟩ := rd_Clock h
  obtain ⟨A0, c0, rfl⟩ := q0.form
  obtain ⟨j0, hj0, hJ0, hJ1, hJ2⟩ := info_parts info_int
  have hml : c.Timers.length ≤ 300 := clock_len hok
  cases hw : withinB now c.Now 1000000000
  · have HN := Lib.hid (adv_no (c := c) (now := now) (by unfold advB; rw [hok, hw]; rfl))
    have HW := Lib.hid hw
    clear hw hok
    rw [HN.out.1, HN.out.2]
    go_enter Try.func24, Try.ntmps24
    go_wp2_with fail
    refine (impl_cloneClock _ c _ (ClockR.rd_keep h (by (repeat (first | (with_reducible exact Below.refl _ _) | (with_reducible assumption) | ((with_reducible refine Below.setCell ?_ ?_ _); rotate_left; focus (first | omega | (simp; done) | (simp; omega))) | ((with_reducible refine Below.alloc ?_ ?_ _); rotate_left; focus (first | omega | (simp; done) | (simp; omega))) | (with_reducible refine Below.drew ?_) | (with_reducible refine below_drewN ?_ _) | (refine Below.trans ?_ (Below.mono (by with_reducible assumption) (by (first | omega | (simp; done) | (simp; omega)))))))) (by first | omega | (simp; done) | (simp; omega))) hm).mono ?_
    rintro e w1 ⟨D, d, rfl, ho1, hb1⟩
    replace ho1 := own_base (base' := w.heap.size + 2) ho1 (by simp; try omega)
    have hz1 := hb1.size; try simp at hz1
    have BK0 : Blk w1 w.heap.size 26 #[.int .i64 c.Now, .slice A0 c.Timers.length c0] := by (repeat (first | (with_reducible assumption) | ((with_reducible refine Blk.new' ?_); focus (simp; done)) | (with_reducible refine Blk.alloc ?_ _) | (with_reducible refine Blk.drew ?_) | (with_reducible refine Blk.drewN ?_ _) | ((with_reducible refine Blk.far ?_ ?_ _); rotate_left; focus (first | omega | (simp; done) | (simp; omega))) | (refine Blk.keep ?_ (by with_reducible assumption)) | (refine Blk.below ?_ (by with_reducible assumption) (by (first | omega | (simp; done) | (simp; omega))))))
    have hc0 := BK0.cell; have hf0 := BK0.frozen; have hl0 := BK0.lt
    have BK1 : Blk w1 (w.heap.size + 1) 26 #[.int .i64 0, .slice none 0 0] := by (repeat (first | (with_reducible assumption) | ((with_reducible refine Blk.new' ?_); focus (simp; done)) | (with_reducible refine Blk.alloc ?_ _) | (with_reducible refine Blk.drew ?_) | (with_reducible refine Blk.drewN ?_ _) | ((with_reducible refine Blk.far ?_ ?_ _); rotate_left; focus (first | omega | (simp; done) | (simp; omega))) | (refine Blk.keep ?_ (by with_reducible assumption)) | (refine Blk.below ?_ (by with_reducible assumption) (by (first | omega | (simp; done) | (simp; omega))))))
    have hc1 := BK1.cell; have hf1 := BK1.frozen; have hl1 := BK1.lt
    go_wp2_with fail
    refine (Calls.veiled (impl_within_b HW.out _)).mono ?_
    rintro e w2 ⟨rfl, hb2⟩
    have hz2 := hb2.size; try simp at hz2
    replace BK0 : Blk w2 w.heap.size 26 #[.int .i64 c.Now, .slice A0 c.Timers.length c0] := by (repeat (first | (with_reducible assumption) | ((with_reducible refine Blk.new' ?_); focus (simp; done)) | (with_reducible refine Blk.alloc ?_ _) | (with_reducible refine Blk.drew ?_) | (with_reducible refine Blk.drewN ?_ _) | ((with_reducible refine Blk.far ?_ ?_ _); rotate_left; focus (first | omega | (simp; done) | (simp; omega))) | (refine Blk.keep ?_ (by with_reducible assumption)) | (refine Blk.below ?_ (by with_reducible assumption) (by (first | omega | (simp; done) | (simp; omega))))))
    replace hc0 := BK0.cell; replace hf0 := BK0.frozen; replace hl0 := BK0.lt
    replace BK1 : Blk w2 (w.heap.size + 1) 26 #[.int .i64 0, .slice none 0 0] := by (repeat (first | (with_reducible assumption) | ((with_reducible refine Blk.new' ?_); focus (simp; done)) | (with_reducible refine Blk.alloc ?_ _) | (with_reducible refine Blk.drew ?_) | (with_reducible refine Blk.drewN ?_ _) | ((with_reducible refine Blk.far ?_ ?_ _); rotate_left; focus (first | omega | (simp; done) | (simp; omega))) | (refine Blk.keep ?_ (by with_reducible assumption)) | (refine Blk.below ?_ (by with_reducible assumption) (by (first | omega | (simp; done) | (simp; omega))))))
    replace hc1 := BK1.cell; replace hf1 := BK1.frozen; replace hl1 := BK1.lt
    have BKO : Blk w2 w1.heap.size 26 #[.int .i64 c.Now, .slice D c.Timers.length d] := by (repeat (first | (with_reducible assumption) | ((with_reducible refine Blk.new' ?_); focus (simp; done)) | (with_reducible refine Blk.alloc ?_ _) | (with_reducible refine Blk.drew ?_) | (with_reducible refine Blk.drewN ?_ _) | ((with_reducible refine Blk.far ?_ ?_ _); rotate_left; focus (first | omega | (simp; done) | (simp; omega))) | (refine Blk.keep ?_ (by with_reducible assumption)) | (refine Blk.below ?_ (by with_reducible assumption) (by (first | omega | (simp; done) | (simp; omega))))))
    have hcO := BKO.cell; have hfO := BKO.frozen; have hlO := BKO.lt
    have hr2 := own_below ho1 (by (repeat (first | (with_reducible exact Below.refl _ _) | (with_reducible assumption) | ((with_reducible refine Below.setCell ?_ ?_ _); rotate_left; focus (first | omega | (simp; done) | (simp; omega))) | ((with_reducible refine Below.alloc ?_ ?_ _); rotate_left; focus (first | omega | (simp; done) | (simp; omega))) | (with_reducible refine Below.drew ?_) | (with_reducible refine below_drewN ?_ _) | (refine Below.trans ?_ (Below.mono (by with_reducible assumption) (by (first | omega | (simp; done) | (simp; omega))))))) : Below w1.heap.size w1 w2)
    go_wp2
    refine bodyPost_ret (v := .tuple #[.agg #[.int .i64 c.Now, .slice D c.Timers.length d], .slice none 0 0]) (by simp [results, Try.results24, go_sem, hc1, hf1, hcO, hfO]) rfl ⟨[.int .i64 c.Now, .slice D c.Timers.length d], .slice none 0 0, rfl, ?_, by (repeat (first | (with_reducible exact Below.refl _ _) | (with_reducible assumption) | ((with_reducible refine Below.setCell ?_ ?_ _); rotate_left; focus (first | omega | (simp; done) | (simp; omega))) | ((with_reducible refine Below.alloc ?_ ?_ _); rotate_left; focus (first | omega | (simp; done) | (simp; omega))) | (with_reducible refine Below.drew ?_) | (with_reducible refine below_drewN ?_ _) | (refine Below.trans ?_ (Below.mono (by with_reducible assumption) (by (first | omega | (simp; done) | (simp; omega)))))))⟩
    refine PairC.of (own_base (base := w.heap.size + 2) ?_ (by omega)) rfl (World.ownsRow_nil _ _ _ _) rfl (fun g _ => by simp [Value.ownBlock])
    (repeat (first | (with_reducible exact hr2) | ((with_reducible refine own_setCell ?_ ?_ _); rotate_left; focus (first | omega | (simp; done) | (simp; omega))) | (with_reducible refine World.ownsRow.alloc ?_ _) | (with_reducible refine own_drew ?_) | (with_reducible refine own_drewN ?_ _) | (refine own_below ?_ (by with_reducible assumption))))
  have HS := Lib.hid (fun (k : Nat) (hk : k ≤ c.Timers.length) h1 h2 => adv_split (now := now) (clockOk_good hok) (k := k) hk h1 h2)
  have HY := Lib.hid (adv_yes (c := c) (now := now) (by unfold advB; rw [hok, hw]; rfl))
  have HW := Lib.hid hw
  clear hw hok
  rw [HY.out.1, HY.out.2]
  have HCl := Lib.hid (fun (w' : World) (hr : ClockR.Rd w' w'.heap.size [.int .i64 c.Now, .slice A0 c.Timers.length c0] c) => impl_cloneClock _ c w' hr hm)
  have HR := Lib.hid (fun (w' : World) (hb : Below w.heap.size w w') (hz : w.heap.size ≤ w'.heap.size) => ClockR.rd_keep h hb hz)
  clear h q0 hm
  generalize c.Timers = ts at *
  generalize hn : ts.length = n at *
  have Hn := Lib.hid hn
  clear hn
  go_enter Try.func24, Try.ntmps24
  go_wp2_with fail
  refine (HCl.out _ (HR.out _ (by (repeat (first | (with_reducible exact Below.refl _ _) | (with_reducible assumption) | ((with_reducible refine Below.setCell ?_ ?_ _); rotate_left; focus (first | omega | (simp; done) | (simp; omega))) | ((with_reducible refine Below.alloc ?_ ?_ _); rotate_left; focus (first | omega | (simp; done) | (simp; omega))) | (with_reducible refine Below.drew ?_) | (with_reducible refine below_drewN ?_ _) | (refine Below.trans ?_ (Below.mono (by with_reducible assumption) (by (first | omega | (simp; done) | (simp; omega)))))))) (by first | omega | (simp; done) | (simp; omega)))).mono ?_
  rintro e w1 ⟨D, d, rfl, ho1, hb1⟩
  replace ho1 := own_base (base' := w.heap.size + 2) ho1 (by simp; try omega)
  have hz1 := hb1.size; try simp at hz1
  have BK0 : Blk w1 w.heap.size 26 #[.int .i64 c.Now, .slice A0 n c0] := by (repeat (first | (with_reducible assumption) | ((with_reducible refine Blk.new' ?_); focus (simp; done)) | (with_reducible refine Blk.alloc ?_ _) | (with_reducible refine Blk.drew ?_) | (with_reducible refine Blk.drewN ?_ _) | ((with_reducible refine Blk.far ?_ ?_ _); rotate_left; focus (first | omega | (simp; done) | (simp; omega))) | (refine Blk.keep ?_ (by with_reducible assumption)) | (refine Blk.below ?_ (by with_reducible assumption) (by (first | omega | (simp; done) | (simp; omega))))))
  have hc0 := BK0.cell; have hf0 := BK0.frozen; have hl0 := BK0.lt
  have BK1 : Blk w1 (w.heap.size + 1) 26 #[.int .i64 0, .slice none 0 0] := by (repeat (first | (with_reducible assumption) | ((with_reducible refine Blk.new' ?_); focus (simp; done)) | (with_reducible refine Blk.alloc ?_ _) | (with_reducible refine Blk.drew ?_) | (with_reducible refine Blk.drewN ?_ _) | ((with_reducible refine Blk.far ?_ ?_ _); rotate_left; focus (first | omega | (simp; done) | (simp; omega))) | (refine Blk.keep ?_ (by with_reducible assumption)) | (refine Blk.below ?_ (by with_reducible assumption) (by (first | omega | (simp; done) | (simp; omega))))))
  have hc1 := BK1.cell; have hf1 := BK1.frozen; have hl1 := BK1.lt
  have hcap := own_cap ho1
  have BK1a := BK1
  have hrd : ∀ (kk : Nat) (t : Timer) (m : Nat), ts[kk]? = some t → kk + (m + 1) = n → ∃ g, D = some ⟨g, 0, none⟩ ∧ g < w1.heap.size ∧ w1.cell? ⟨g, kk * 2, none⟩ = some (.int .i64 t.At) ∧ w1.cell? ⟨g, kk * 2 + 1, none⟩ = some (.int .i64 t.Id) := by
    intro kk t m ht hkm
    obtain ⟨gg, cap, e, hg1, hg2⟩ := ho1.form (by omega)
    simp only [Value.slice.injEq] at e
    obtain ⟨rfl, _, rfl⟩ := e
    obtain ⟨hk1, rfl⟩ := List.getElem?_eq_some_iff.1 ht
    have hr := (Reads.of_own ho1).elem_at Timer.len (by omega) hk1 (Below.refl _ _)
    have e0 := hr 0 (by omega)
    have e1 := hr 1 (by omega)
    simp only [Nat.zero_add, Nat.add_zero, Timer.cells, List.getElem?_cons_zero, List.getElem?_cons_succ] at e0 e1
    exact ⟨gg, rfl, hg2, e0, e1⟩
  have HRd := Lib.hid hrd
  clear hrd
  go_wp2_with fail
  refine (Calls.veiled (impl_within_b HW.out _)).mono ?_
  rintro e w2 ⟨rfl, hb2⟩
  have hz2 := hb2.size; try simp at hz2
  replace BK0 : Blk w2 w.heap.size 26 #[.int .i64 c.Now, .slice A0 n c0] := by (repeat (first | (with_reducible assumption) | ((with_reducible refine Blk.new' ?_); focus (simp; done)) | (with_reducible refine Blk.alloc ?_ _) | (with_reducible refine Blk.drew ?_) | (with_reducible refine Blk.drewN ?_ _) | ((with_reducible refine Blk.far ?_ ?_ _); rotate_left; focus (first | omega | (simp; done) | (simp; omega))) | (refine Blk.keep ?_ (by with_reducible assumption)) | (refine Blk.below ?_ (by with_reducible assumption) (by (first | omega | (simp; done) | (simp; omega))))))
  replace hc0 := BK0.cell; replace hf0 := BK0.frozen; replace hl0 := BK0.lt
  replace BK1 : Blk w2 (w.heap.size + 1) 26 #[.int .i64 0, .slice none 0 0] := by (repeat (first | (with_reducible assumption) | ((with_reducible refine Blk.new' ?_); focus (simp; done)) | (with_reducible refine Blk.alloc ?_ _) | (with_reducible refine Blk.drew ?_) | (with_reducible refine Blk.drewN ?_ _) | ((with_reducible refine Blk.far ?_ ?_ _); rotate_left; focus (first | omega | (simp; done) | (simp; omega))) | (refine Blk.keep ?_ (by with_reducible assumption)) | (refine Blk.below ?_ (by with_reducible assumption) (by (first | omega | (simp; done) | (simp; omega))))))
  replace hc1 := BK1.cell; replace hf1 := BK1.frozen; replace hl1 := BK1.lt
  have BKO : Blk w2 w1.heap.size 26 #[.int .i64 c.Now, .slice D n d] := by (repeat (first | (with_reducible assumption) | ((with_reducible refine Blk.new' ?_); focus (simp; done)) | (with_reducible refine Blk.alloc ?_ _) | (with_reducible refine Blk.drew ?_) | (with_reducible refine Blk.drewN ?_ _) | ((with_reducible refine Blk.far ?_ ?_ _); rotate_left; focus (first | omega | (simp; done) | (simp; omega))) | (refine Blk.keep ?_ (by with_reducible assumption)) | (refine Blk.below ?_ (by with_reducible assumption) (by (first | omega | (simp; done) | (simp; omega))))))
  have hcO := BKO.cell; have hfO := BKO.frozen; have hlO := BKO.lt
  have hb12 : Below w1.heap.size w1 w2 := by (repeat (first | (with_reducible exact Below.refl _ _) | (with_reducible assumption) | ((with_reducible refine Below.setCell ?_ ?_ _); rotate_left; focus (first | omega | (simp; done) | (simp; omega))) | ((with_reducible refine Below.alloc ?_ ?_ _); rotate_left; focus (first | omega | (simp; done) | (simp; omega))) | (with_reducible refine Below.drew ?_) | (with_reducible refine below_drewN ?_ _) | (refine Below.trans ?_ (Below.mono (by with_reducible assumption) (by (first | omega | (simp; done) | (simp; omega)))))))
  have hlO2 := BKO.lt
  go_wp2
  go_loopw [7] (fun sl wr => ∃ (k m dd : Nat) (A' B : Option Addr) (dB : Nat) (ys : List Int), k + m = n ∧ k + dd = d ∧ Hid (0 < m → ∃ g, D = some ⟨g, 0, none⟩ ∧ A' = some ⟨g, k * 2, none⟩) ∧ sl = .slice B k dB ∧ Below w1.heap.size w1 wr ∧ w2.heap.size ≤ wr.heap.size ∧ Blk wr w1.heap.size 26 #[.int .i64 now, .slice A' m dd] ∧ Hid (wr.ownsRow w2.heap.size 3 1 (.slice B k dB) k (ys.map intV)) ∧ Hid (ys.length = k) ∧ Hid (ys = (ts.take k).map (·.Id)) ∧ Hid (∀ t ∈ ts.take k, dueB now t = true)) (fun sl _ => n - (match sl with | .slice _ l _ => l | _ => 0))
  case atStart =>
    refine ⟨0, n, d, D, none, 0, [], by omega, by omega, Lib.hid (fun hn => ?_), rfl, by (repeat (first | (with_reducible exact Below.refl _ _) | (with_reducible assumption) | ((with_reducible refine Below.setCell ?_ ?_ _); rotate_left; focus (first | omega | (simp; done) | (simp; omega))) | ((with_reducible refine Below.alloc ?_ ?_ _); rotate_left; focus (first | omega | (simp; done) | (simp; omega))) | (with_reducible refine Below.drew ?_) | (with_reducible refine below_drewN ?_ _) | (refine Below.trans ?_ (Below.mono (by with_reducible assumption) (by (first | omega | (simp; done) | (simp; omega))))))), by simp, by simpa using BKO.set_ 0 (.int .i64 now), Lib.hid (World.ownsRow_nil _ _ _ _), Lib.hid rfl, Lib.hid rfl, Lib.hid (by simp)⟩
    obtain ⟨gg, cap, e, _⟩ := ho1.form hn
    simp only [Value.slice.injEq] at e
    exact ⟨gg, e.1, by rw [e.1, Nat.zero_mul]⟩
  case round =>
    obtain ⟨k, m, dd, A', B, dB, ys, hkm, hkd, HA, rfl, hb, hzr, BO, HI, HYl, HYs, HDue⟩ := hrel
    have hcO := BO.cell; have hfO := BO.frozen; have hlO := BO.lt
    by_cases hm0 : 0 < m
    rotate_left
    · have hm00 : m = 0 := by omega
      subst hm00
      have HNx : Hid (∀ t, ts[k]? = some t → dueB now t = false) := Lib.hid (fun t ht => by have h1 := (List.getElem?_eq_some_iff.1 ht).1; rw [Hn.out] at h1; omega)
      have BKr : Blk wr (w.heap.size + 1) 26 #[.int .i64 0, .slice none 0 0] := BK1a.keep hb
      have hcr := BKr.cell; have hfr := BKr.frozen
      obtain ⟨hS1, hS2⟩ := HS.out k (by omega) HDue.out HNx.out
      have HS3 := Lib.hid (And.intro hS1 hS2)
      clear hS1 hS2 HNx
      go_wp2
      refine bodyPost_ret (v := .tuple #[.agg #[.int .i64 now, .slice A' 0 dd], .slice B k dB]) (by simp [results, Try.results24, go_sem, hcr, hfr, hcO, hfO]) rfl ⟨[.int .i64 now, .slice A' 0 dd], .slice B k dB, rfl, ?_, by (repeat (first | (with_reducible exact Below.refl _ _) | (with_reducible assumption) | ((with_reducible refine Below.setCell ?_ ?_ _); rotate_left; focus (first | omega | (simp; done) | (simp; omega))) | ((with_reducible refine Below.alloc ?_ ?_ _); rotate_left; focus (first | omega | (simp; done) | (simp; omega))) | (with_reducible refine Below.drew ?_) | (with_reducible refine below_drewN ?_ _) | (refine Below.trans ?_ (Below.mono (by with_reducible assumption) (by (first | omega | (simp; done) | (simp; omega)))))))⟩
      rw [HS3.out.1, HS3.out.2, ← HYs.out]
      have hrw := own_below ho1 hb
      have hrI := HI.out
      refine PairC.tail (own_base (base := w.heap.size + 2) ?_ (by omega)) Hn.out (k := k) (by omega) (by omega) HA.out (own_base (base := w2.heap.size) ?_ (by omega)) HYl.out ?_
      · (repeat (first | (with_reducible exact hrw) | ((with_reducible refine own_setCell ?_ ?_ _); rotate_left; focus (first | omega | (simp; done) | (simp; omega))) | (with_reducible refine World.ownsRow.alloc ?_ _) | (with_reducible refine own_drew ?_) | (with_reducible refine own_drewN ?_ _) | (refine own_below ?_ (by with_reducible assumption))))
      · (repeat (first | (with_reducible exact hrI) | ((with_reducible refine own_setCell ?_ ?_ _); rotate_left; focus (first | omega | (simp; done) | (simp; omega))) | (with_reducible refine World.ownsRow.alloc ?_ _) | (with_reducible refine own_drew ?_) | (with_reducible refine own_drewN ?_ _) | (refine own_below ?_ (by with_reducible assumption))))
      intro g hg hg'
      have h1 := (ho1.lt g hg).2
      have h2 := (HI.out.lt g hg').1
      omega
    obtain ⟨q, rfl⟩ : ∃ q, m = q + 1 := ⟨m - 1, by omega⟩
    obtain ⟨dq, rfl⟩ : ∃ dq, dd = dq + 1 := ⟨dd - 1, by omega⟩
    have hkx : k < ts.length := by rw [Hn.out]; omega
    have HT := Lib.hid (List.getElem?_eq_getElem hkx)
    generalize ts[k]'hkx = t at HT
    clear hkx
    obtain ⟨g, rfl, hg2, hx0, hx1⟩ := HRd.out k t q HT.out hkm
    obtain ⟨g', e1, rfl⟩ := HA.out hm0
    simp only [Option.some.injEq, Addr.mk.injEq, and_true] at e1
    subst e1
    clear HA
    have hy0 : wr.cell? ⟨g, k * 2, none⟩ = some (.int .i64 t.At) := (hb.cell (p := ⟨g, k * 2, none⟩) hg2).trans hx0
    have hy1 : wr.cell? ⟨g, k * 2 + 1, none⟩ = some (.int .i64 t.Id) := (hb.cell (p := ⟨g, k * 2 + 1, none⟩) hg2).trans hx1
    by_cases hdue : t.At ≤ now
    rotate_left
    · have HNx : Hid (∀ t, ts[k]? = some t → dueB now t = false) := Lib.hid (fun t' ht => by
        rw [HT.out] at ht
        obtain rfl : t = t' := by simpa using ht
        exact decide_eq_false hdue)
      have HA : Hid (0 < q + 1 → ∃ g_1, (some ⟨g, 0, none⟩ : Option Addr) = some ⟨g_1, 0, none⟩ ∧ (some ⟨g, k * 2, none⟩ : Option Addr) = some ⟨g_1, k * 2, none⟩) := Lib.hid (fun _ => ⟨g, rfl, rfl⟩)
      have BKr : Blk wr (w.heap.size + 1) 26 #[.int .i64 0, .slice none 0 0] := BK1a.keep hb
      have hcr := BKr.cell; have hfr := BKr.frozen
      obtain ⟨hS1, hS2⟩ := HS.out k (by omega) HDue.out HNx.out
      have HS3 := Lib.hid (And.intro hS1 hS2)
      clear hS1 hS2 HNx
      go_wp2
      refine bodyPost_ret (v := .tuple #[.agg #[.int .i64 now, .slice (some ⟨g, k * 2, none⟩) (q + 1) (dq + 1)], .slice B k dB]) (by simp [results, Try.results24, go_sem, hcr, hfr, hcO, hfO]) rfl ⟨[.int .i64 now, .slice (some ⟨g, k * 2, none⟩) (q + 1) (dq + 1)], .slice B k dB, rfl, ?_, by (repeat (first | (with_reducible exact Below.refl _ _) | (with_reducible assumption) | ((with_reducible refine Below.setCell ?_ ?_ _); rotate_left; focus (first | omega | (simp; done) | (simp; omega))) | ((with_reducible refine Below.alloc ?_ ?_ _); rotate_left; focus (first | omega | (simp; done) | (simp; omega))) | (with_reducible refine Below.drew ?_) | (with_reducible refine below_drewN ?_ _) | (refine Below.trans ?_ (Below.mono (by with_reducible assumption) (by (first | omega | (simp; done) | (simp; omega)))))))⟩
      rw [HS3.out.1, HS3.out.2, ← HYs.out]
      have hrw := own_below ho1 hb
      have hrI := HI.out
      refine PairC.tail (own_base (base := w.heap.size + 2) ?_ (by omega)) Hn.out (k := k) (by omega) (by omega) HA.out (own_base (base := w2.heap.size) ?_ (by omega)) HYl.out ?_
      · (repeat (first | (with_reducible exact hrw) | ((with_reducible refine own_setCell ?_ ?_ _); rotate_left; focus (first | omega | (simp; done) | (simp; omega))) | (with_reducible refine World.ownsRow.alloc ?_ _) | (with_reducible refine own_drew ?_) | (with_reducible refine own_drewN ?_ _) | (refine own_below ?_ (by with_reducible assumption))))
      · (repeat (first | (with_reducible exact hrI) | ((with_reducible refine own_setCell ?_ ?_ _); rotate_left; focus (first | omega | (simp; done) | (simp; omega))) | (with_reducible refine World.ownsRow.alloc ?_ _) | (with_reducible refine own_drew ?_) | (with_reducible refine own_drewN ?_ _) | (refine own_below ?_ (by with_reducible assumption))))
      intro g hg hg'
      have h1 := (ho1.lt g hg).2
      have h2 := (HI.out.lt g hg').1
      omega
    have HDue2 : Hid (dueB now t = true) := Lib.hid (decide_eq_true hdue)
    obtain ⟨A2, hA2, hrun⟩ := run_tail1 (A := some ⟨g, k * 2, none⟩) q dq (by omega)
    have HA2 := Lib.hid hA2
    clear hA2
    have hir := HI.out
    have hirlt : ∀ q, (Value.slice B k dB).ownBlock = some q → w2.heap.size ≤ q ∧ q < wr.heap.size := fun q e => hir.lt q e
    go_wp2_with (first | (at_builtin; go_loud (refine wpList_append_own_at _ rfl _ _ 30 rfl w2.heap.size 3 j0 (.int .i64 0) 1 8 Try.underlying30 hj0 hJ0 hJ1 hJ2 rfl (by decide) _ _ _ rfl (hir.alloc _) ⟨wr.heap.size, 0, none⟩ 1 1 [.int .i64 t.Id] rfl rfl ?c1 ?c2 ?c3 ?c4 ?c5 ?_; (case c1 => exact cell_one_new _ _ _); (case c2 => simp [Value.oneCell']); (case c3 => (simp only [maxLen]; omega)); (case c4 => omega); (case c5 => (simp; omega)); intro v' wA hown1 hgrow hnil hat; obtain ⟨gg, cap, rfl, hg1, hg2'⟩ := hown1.form (by omega); have BOA : Blk wA w1.heap.size 26 #[.int .i64 now, .slice (some ⟨g, k * 2, none⟩) (q + 1) (dq + 1)] := ((BO.alloc _).grown hgrow (fun e => by have := (hirlt _ e.symm).1; omega)); have hcA := BOA.cell; have hfA := BOA.frozen)))
    go_roundw
    case rel =>
      have hzg := hgrow.size
      have hzg2 : wr.heap.size + 1 ≤ wA.heap.size := by simpa using hzg
      have BOB := BOA.set_ 1 (.slice A2 q dq)
      have hbA : Below w1.heap.size w1 (wr.alloc (.cells #[.int .i64 t.Id] 3)) := Below.alloc hb (by omega) _
      refine ⟨k + 1, q, dq, A2, some ⟨gg, 0, none⟩, cap, ys ++ [t.Id], by omega, by omega, Lib.hid (fun h0 => ⟨g, rfl, ?_⟩), rfl, ?_, by simp; omega, by simpa using BOB, Lib.hid (own_setCell (by rw [List.map_append]; exact hown1) (by simp; omega) _), Lib.hid (by rw [List.length_append, HYl.out]; rfl), Lib.hid (by rw [take_snoc HT.out, List.map_append, HYs.out]; rfl), Lib.hid ?_⟩
      · rw [HA2.out h0]
        simp [addr_add_none]
        try omega
      · exact (Below.grown hbA hgrow (by simp; omega) (fun q e => by have := hirlt q e; omega)).setCell (by simp) _
      · intro t' ht'
        rw [take_snoc HT.out] at ht'
        rcases List.mem_append.1 ht' with h | h
        · exact HDue.out t' h
        · rw [List.mem_singleton.1 h]; exact HDue2.out
    case measure => simp; omega
end Go.Proofs.Ythahnaigdoiddaa

/- Clocks handed back: slices.Clone and slices.Delete of timers, cloneClock, stopTimer, StopTimer. -/
import Derived.Test.YthahnaigdoiddaaPureStop
import Derived.Test.YthahnaigdoiddaaDelete
import Derived.Test.YthahnaigdoiddaaImplClock
set_option linter.unusedSimpArgs false
set_option linter.unusedVariables false
set_option maxRecDepth 20000
namespace Go.Proofs.Ythahnaigdoiddaa
open Go.RowKit
theorem timers_one (xs : List Timer) : ∀ u ∈ xs.flatMap Timer.cells, u.oneCell' = true := flat_one Timer.one xs
theorem reads_TimerS {w : World} {B n c : Nat} {A : Option Addr} {xs : List Timer} (h : SlRd TimerR w B (.slice A n c) xs) : Reads w B A (xs.flatMap Timer.cells) ∧ xs.length ≤ c ∧ c ≤ 9223372036854775807 := by
  obtain ⟨_, h2, h3, h4, _⟩ := h.reads (by omega)
  exact ⟨h2, h3, h4⟩
theorem of_own_TimerS {w : World} {base : Nat} {A : Option Addr} {c : Nat} {xs : List Timer} (h : w.ownsRow base 52 2 (.slice A xs.length c) xs.length (xs.flatMap Timer.cells)) : SlOwn TimerR 52 w (fun g => (Value.slice A xs.length c).ownBlock = some g) (.slice A xs.length c) xs :=
  SlOwn.of_own (by omega) h (fun _ _ => trivial)
theorem of_own_in_TimerS {w : World} {base : Nat} {A : Option Addr} {c : Nat} {xs : List Timer} (h : w.ownsRow base 52 2 (.slice A xs.length c) xs.length (xs.flatMap Timer.cells)) : SlOwn TimerR 52 w (InR base w.heap.size) (.slice A xs.length c) xs := (of_own_TimerS h).wide (own_inR h)
set_option maxHeartbeats 800000 in
theorem slices_Clone_Timer (A : Option Addr) (c : Nat) (xs : List Timer) (w : World) (hr : Reads w w.heap.size A (xs.flatMap Timer.cells)) (hm : xs.length ≤ 1073741824) :
    Calls Try.prog 36 #[.slice A xs.length c] w fun e w' => ∃ A1 c1, e = .returned (.slice A1 xs.length c1) ∧ w'.ownsRow w.heap.size 52 2 (.slice A1 xs.length c1) xs.length (xs.flatMap Timer.cells) ∧ Below w.heap.size w w' := by
  obtain ⟨i0, hi0, hI0, hI1, hI2⟩ := info_parts info_Timer
  generalize hn : xs.length = n at hm
  have Hn := Lib.hid hn
  have hnil := fun w => Lib.run_eql_slice_nil (P := Try.prog) w 24 52 A n c 0 0 Try.underlying24
  cases A with
  | none =>
    have hx : xs = [] := by
      cases xs with
      | nil => rfl
      | cons x xs => obtain ⟨b, off, h, _⟩ := hr (by simp [Timer.cells]); cases h
    subst hx
    obtain rfl : n = 0 := hn.symm
    clear hn
    go_enter Try.func36, Try.ntmps36
    go_wp2
    go_ret
    exact ⟨none, 0, rfl, World.ownsRow_nil _ _ _ _, by (repeat (first | (with_reducible exact Below.refl _ _) | (with_reducible assumption) | ((with_reducible refine Below.setCell ?_ ?_ _); rotate_left; focus (first | omega | (simp; done) | (simp; omega))) | ((with_reducible refine Below.alloc ?_ ?_ _); rotate_left; focus (first | omega | (simp; done) | (simp; omega))) | (with_reducible refine Below.drew ?_) | (with_reducible refine below_drewN ?_ _) | (refine Below.trans ?_ (Below.mono (by with_reducible assumption) (by (first | omega | (simp; done) | (simp; omega)))))))⟩
  | some a =>
    clear hn
    have hown0 : World.ownsRow _ _ 52 2 _ _ _ := World.ownsRow_lit w #[] 0 (Nat.le_refl _) (by simp [maxLen]) rfl
    have H1 := Lib.hid (timers_one xs)
    have hrA : Reads (w.alloc (.cells #[] 52)) w.heap.size (some a) (xs.flatMap Timer.cells) := hr.below (by (repeat (first | (with_reducible exact Below.refl _ _) | (with_reducible assumption) | ((with_reducible refine Below.setCell ?_ ?_ _); rotate_left; focus (first | omega | (simp; done) | (simp; omega))) | ((with_reducible refine Below.alloc ?_ ?_ _); rotate_left; focus (first | omega | (simp; done) | (simp; omega))) | (with_reducible refine Below.drew ?_) | (with_reducible refine below_drewN ?_ _) | (refine Below.trans ?_ (Below.mono (by with_reducible assumption) (by (first | omega | (simp; done) | (simp; omega)))))))) (Nat.le_refl _)
    go_enter Try.func36, Try.ntmps36
    go_wp2_with (first | (at_builtin; go_loud (refine wpList_append_reads rfl _ _ 24 rfl w.heap.size 52 i0 _ 2 16 Try.underlying24 hi0 hI0 hI1 hI2 rfl (by decide) _ _ _ rfl hown0 w.heap.size (some a) n c (xs.flatMap Timer.cells) rfl ?c0 hrA H1.out ?c3 ?c4 ?c5 ?_; (case c0 => rw [flat_length Timer.cells 2 Timer.len, Hn.out]); (case c3 => (simp only [maxLen]; omega)); (case c4 => omega); (case c5 => (first | omega | (simp; done) | (simp; omega))); intro v' wA hown1 hgrow hat; obtain ⟨A1, c1, rfl⟩ := own_slice hown1)))
    go_ret
    refine ⟨A1, c1, by simp, by simpa using hown1, ?_⟩
    exact Below.grown ((Below.refl _ _).alloc (Nat.le_refl _) _) hgrow (by simp) (fun g e => (hown0.lt _ e).1)
set_option maxHeartbeats 1600000 in
theorem impl_cloneClock (cs : List Value) (c : Clock) (w : World) (h : ClockR.Rd w w.heap.size cs c) (hm : ClockR.sz c ≤ 1048576) :
    Calls Try.prog 20 #[.agg cs.toArray] w fun e w' => ∃ A d, e = .returned (.agg #[.int .i64 c.Now, .slice A c.Timers.length d]) ∧ w'.ownsRow (w.heap.size + 2) 52 2 (.slice A c.Timers.length d) c.Timers.length (c.Timers.flatMap Timer.cells) ∧ Below w.heap.size w w' := by
  obtain ⟨v0, rfl, q0⟩ := rd_Clock h
  obtain ⟨A0, c0, rfl⟩ := q0.form
  rw [sz_Clock, sz_TimerS] at hm
  have H0 := Lib.hid (fun (w' : World) (hb : Below w.heap.size w w') => slices_Clone_Timer A0 c0 c.Timers w' ((reads_TimerS q0).1.keep hb hb.size) (by omega))
  go_enter Try.func20, Try.ntmps20
  go_wp2
  have BK : Blk ((w.alloc (.cells #[.int .i64 c.Now, .slice A0 c.Timers.length c0] 26)).alloc (.cells #[.int .i64 0, .slice none 0 0] 26)) w.heap.size 26 #[.int .i64 c.Now, .slice A0 c.Timers.length c0] := by (repeat (first | (with_reducible assumption) | ((with_reducible refine Blk.new' ?_); focus (simp; done)) | (with_reducible refine Blk.alloc ?_ _) | (with_reducible refine Blk.drew ?_) | (with_reducible refine Blk.drewN ?_ _) | ((with_reducible refine Blk.far ?_ ?_ _); rotate_left; focus (first | omega | (simp; done) | (simp; omega))) | (refine Blk.keep ?_ (by with_reducible assumption)) | (refine Blk.below ?_ (by with_reducible assumption) (by (first | omega | (simp; done) | (simp; omega))))))
  have hbW : Below w.heap.size w ((w.alloc (.cells #[.int .i64 c.Now, .slice A0 c.Timers.length c0] 26)).alloc (.cells #[.int .i64 0, .slice none 0 0] 26)) := by (repeat (first | (with_reducible exact Below.refl _ _) | (with_reducible assumption) | ((with_reducible refine Below.setCell ?_ ?_ _); rotate_left; focus (first | omega | (simp; done) | (simp; omega))) | ((with_reducible refine Below.alloc ?_ ?_ _); rotate_left; focus (first | omega | (simp; done) | (simp; omega))) | (with_reducible refine Below.drew ?_) | (with_reducible refine below_drewN ?_ _) | (refine Below.trans ?_ (Below.mono (by with_reducible assumption) (by (first | omega | (simp; done) | (simp; omega)))))))
  have BR : Blk ((w.alloc (.cells #[.int .i64 c.Now, .slice A0 c.Timers.length c0] 26)).alloc (.cells #[.int .i64 0, .slice none 0 0] 26)) (w.heap.size + 1) 26 #[.int .i64 0, .slice none 0 0] := Blk.new' (by simp)
  have hzW : w.heap.size + 2 ≤ ((w.alloc (.cells #[.int .i64 c.Now, .slice A0 c.Timers.length c0] 26)).alloc (.cells #[.int .i64 0, .slice none 0 0] 26)).heap.size := by simp
  generalize (w.alloc (.cells #[.int .i64 c.Now, .slice A0 c.Timers.length c0] 26)).alloc (.cells #[.int .i64 0, .slice none 0 0] 26) = W at *
  go_region_held3 (fun w' => w'.cell? ⟨w.heap.size, 0, none⟩ = some (.int .i64 c.Now) ∧ w'.cell? ⟨w.heap.size, 1, none⟩ = some (.slice A0 c.Timers.length c0))
    (refine ⟨Blk.cell (t := 26) (cs := #[.int .i64 c.Now, .slice A0 c.Timers.length c0]) ?_ 0, Blk.cell (t := 26) (cs := #[.int .i64 c.Now, .slice A0 c.Timers.length c0]) ?_ 1⟩ <;> (repeat (first | (with_reducible assumption) | ((with_reducible refine Blk.new' ?_); focus (simp; done)) | (with_reducible refine Blk.alloc ?_ _) | (with_reducible refine Blk.drew ?_) | (with_reducible refine Blk.drewN ?_ _) | ((with_reducible refine Blk.far ?_ ?_ _); rotate_left; focus (first | omega | (simp; done) | (simp; omega))) | (refine Blk.keep ?_ (by with_reducible assumption)) | (refine Blk.below ?_ (by with_reducible assumption) (by (first | omega | (simp; done) | (simp; omega)))))))
    (first
    | (go_at_call 36; ((with_reducible refine (H0.out _ ?_).mono ?_); (focus (repeat (first | (with_reducible exact Below.refl _ _) | (with_reducible assumption) | ((with_reducible refine Below.setCell ?_ ?_ _); rotate_left; focus (first | omega | (simp; done) | (simp; omega))) | ((with_reducible refine Below.alloc ?_ ?_ _); rotate_left; focus (first | omega | (simp; done) | (simp; omega))) | (with_reducible refine Below.drew ?_) | (with_reducible refine below_drewN ?_ _) | (refine Below.trans ?_ (Below.mono (by with_reducible assumption) (by (first | omega | (simp; done) | (simp; omega))))))))); rintro e wA ⟨D0, d0, rfl, ho0, hbA⟩; have BKa : Blk wA w.heap.size 26 #[.int .i64 c.Now, .slice A0 c.Timers.length c0] := (by (repeat (first | (with_reducible assumption) | ((with_reducible refine Blk.new' ?_); focus (simp; done)) | (with_reducible refine Blk.alloc ?_ _) | (with_reducible refine Blk.drew ?_) | (with_reducible refine Blk.drewN ?_ _) | ((with_reducible refine Blk.far ?_ ?_ _); rotate_left; focus (first | omega | (simp; done) | (simp; omega))) | (refine Blk.keep ?_ (by with_reducible assumption)) | (refine Blk.below ?_ (by with_reducible assumption) (by (first | omega | (simp; done) | (simp; omega))))))); have BRa : Blk wA (w.heap.size + 1) 26 #[.int .i64 0, .slice none 0 0] := (by (repeat (first | (with_reducible assumption) | ((with_reducible refine Blk.new' ?_); focus (simp; done)) | (with_reducible refine Blk.alloc ?_ _) | (with_reducible refine Blk.drew ?_) | (with_reducible refine Blk.drewN ?_ _) | ((with_reducible refine Blk.far ?_ ?_ _); rotate_left; focus (first | omega | (simp; done) | (simp; omega))) | (refine Blk.keep ?_ (by with_reducible assumption)) | (refine Blk.below ?_ (by with_reducible assumption) (by (first | omega | (simp; done) | (simp; omega))))))); have hzA := hbA.size; (try simp at hzA); have hcA := BRa.cell; have hfA := BRa.frozen))
  go_wp2
  refine bodyPost_ret (v := .agg #[.int .i64 c.Now, .slice D0 c.Timers.length d0]) (by simp [results, Try.results20, go_sem, hcA, hfA]) rfl ⟨D0, d0, rfl, ?_, by (repeat (first | (with_reducible exact Below.refl _ _) | (with_reducible assumption) | ((with_reducible refine Below.setCell ?_ ?_ _); rotate_left; focus (first | omega | (simp; done) | (simp; omega))) | ((with_reducible refine Below.alloc ?_ ?_ _); rotate_left; focus (first | omega | (simp; done) | (simp; omega))) | (with_reducible refine Below.drew ?_) | (with_reducible refine below_drewN ?_ _) | (refine Below.trans ?_ (Below.mono (by with_reducible assumption) (by (first | omega | (simp; done) | (simp; omega)))))))⟩
  have e1 : W.drew.heap.size = W.heap.size := rfl
  replace ho0 := own_base (base' := w.heap.size + 2) ho0 (by omega)
  (repeat (first | (with_reducible exact ho0) | ((with_reducible refine own_setCell ?_ ?_ _); rotate_left; focus (first | omega | (simp; done) | (simp; omega))) | (with_reducible refine World.ownsRow.alloc ?_ _) | (with_reducible refine own_drew ?_) | (with_reducible refine own_drewN ?_ _) | (refine own_below ?_ (by with_reducible assumption))))
theorem grown_trans {w w1 w2 : World} {r : Option Nat} (h : w.grownBy w1 r) (h2 : w1.grownBy w2 r) : w.grownBy w2 r :=
  ⟨h2.os.trans h.os, h2.tape.trans h.tape, h2.output.trans h.output, Nat.le_trans h.size h2.size, fun k hk hr => (h2.block k (Nat.lt_of_lt_of_le hk h.size) hr).trans (h.block k hk hr)⟩
set_option maxHeartbeats 1600000 in
set_option maxRecDepth 8000 in
theorem slices_Delete_Timer (base g cap : Nat) (xs : List Timer) (k : Nat) (w : World) (ho : w.ownsRow base 52 2 (.slice (some ⟨g, 0, none⟩) xs.length cap) xs.length (xs.flatMap Timer.cells)) (hk : k < xs.length) (hm : xs.length ≤ 1073741824) :
    Calls Try.prog 37 #[.slice (some ⟨g, 0, none⟩) xs.length cap, .int .i64 k, .int .i64 ((k : Int) + 1)] w fun e w' => e = .returned (.slice (some ⟨g, 0, none⟩) (xs.length - 1) cap) ∧ w'.ownsRow base 52 2 (.slice (some ⟨g, 0, none⟩) (xs.length - 1) cap) (xs.length - 1) ((xs.take k ++ xs.drop (k + 1)).flatMap Timer.cells) ∧ w.grownBy w' (some g) := by
  obtain ⟨i0, hi0, hI0, hI1, hI2⟩ := info_parts info_Timer
  have hcap := own_cap ho
  have hcapM : cap ≤ 9223372036854775807 := by
    rcases ho.2 with ⟨hv, _⟩ | ⟨g', cap', cur, hv, _, _, _, hcm, _⟩
    · simp at hv
    · simp only [Value.slice.injEq] at hv; simp only [maxLen] at hcm; omega
  have ho1 := own_take ho (i := k) (by omega)
  rw [flat_take Timer.cells 2 Timer.len] at ho1
  have hnl : ((xs.drop (k + 1)).flatMap Timer.cells).length = (xs.length - (k + 1)) * 2 := by rw [flat_length _ _ Timer.len, List.length_drop]
  have hnews : ∀ j u, ((xs.drop (k + 1)).flatMap Timer.cells)[j]? = some u → w.cell? ⟨g, (k + 1) * 2 + j, none⟩ = some u := by
    intro j u hu
    have hjl := (List.getElem?_eq_some_iff.1 hu).1
    rw [hnl] at hjl
    have h1 := ho.cellAt ((k + 1) * 2 + j) (by omega)
    rw [h1]
    have h2 : xs.flatMap Timer.cells = (xs.take (k + 1)).flatMap Timer.cells ++ (xs.drop (k + 1)).flatMap Timer.cells := by rw [← List.flatMap_append, List.take_append_drop]
    have h3 : ((xs.take (k + 1)).flatMap Timer.cells).length = (k + 1) * 2 := by rw [flat_length _ _ Timer.len, List.length_take]; omega
    rw [h2, List.getElem?_append_right (by omega), h3, show (k + 1) * 2 + j - (k + 1) * 2 = j by omega]
    exact hu
  have HNews := Lib.hid hnews
  have HNl := Lib.hid hnl
  have H1 := Lib.hid (timers_one (xs.drop (k + 1)))
  have HCat : Hid ((xs.take k).flatMap Timer.cells ++ (xs.drop (k + 1)).flatMap Timer.cells = (xs.take k ++ xs.drop (k + 1)).flatMap Timer.cells) := Lib.hid (by rw [List.flatMap_append])
  have hzv : ∀ w, (zeroValue 52).run Try.prog w = .ok (.agg #[.int .i64 0, .int .i64 0]) w := fun _ => by kernel_rfl
  generalize hn : xs.length = n at *
  clear hn hnews hnl ho
  by_cases hc : k + 1 = cap
  · have hc' : (cap = k + 1) = True := by simp [hc]
    have hvac : ((xs.drop (k + 1)).flatMap Timer.cells).length = 0 := by rw [HNl.out]; omega
    have HVac := Lib.hid hvac
    clear hvac hc
    go_enter Try.func37, Try.ntmps37
    go_wp2
    have hi1 : (0 : Int) ≤ (k : Int) := by omega
    have hi2 : (k : Int) ≤ (cap : Int) := by omega
    have hi3 : (0 : Int) ≤ (k : Int) + 1 := by omega
    have hi4 : (k : Int) + 1 ≤ (n : Int) := by omega
    have hi5 : ((k : Int) + 1).toNat = k + 1 := by omega
    go_region_law (refine step_append_fits (w := w.drew) (by rfl) _ _ _ (by rfl) base 52 i0 2 Try.underlying24 hi0 hI1 g k cap _ (by rfl) (own_drew ho1) ⟨g, 0, none⟩ (n - (k + 1)) (cap - (k + 1)) ((xs.drop (k + 1)).flatMap Timer.cells) (by rfl) HNl.out (fun j u hu => by have h1 := (List.getElem?_eq_some_iff.1 hu).1; rw [HVac.out] at h1; omega) H1.out (by omega) ?_; intro w1 ho2 hg2)
    clear hi1 hi2 hi3 hi4 hi5
    have hsum : k + (n - (k + 1)) = n - 1 := by omega
    rw [hsum] at ho2
    simp only [hsum]
    clear hsum
    have hj1 : (0 : Int) ≤ ((n - 1 : Nat) : Int) := by omega
    have hj2 : ((n - 1 : Nat) : Int) ≤ (n : Int) := by omega
    have hj3 : ¬ cap = n - 1 := by omega
    have hj4 : (n : Int) ≤ (cap : Int) := by omega
    obtain ⟨w2, hrun, ho3, hg3⟩ := run_clear_tail (P := Try.prog) (w := w1) base 24 0 52 (.agg #[.int .i64 0, .int .i64 0]) 2 Try.underlying24 hzv rfl (by simp [Value.cells, Value.oneCell']) ho2 ⟨g, (n - 1) * 2, none⟩ (n - (n - 1)) (cap - (n - 1)) (fun _ => rfl) (by omega)
    go_wp2
    go_ret
    refine ⟨rfl, ?_, ?_⟩
    · rw [← HCat.out]; exact ho3
    · exact grown_trans (w1 := w1) ⟨hg2.os, hg2.tape, hg2.output, hg2.size, hg2.block⟩ hg3
  · have hlt : k + 1 < cap := by omega
    have hc' : ¬ cap = k + 1 := fun e => hc e.symm
    clear hc
    go_enter Try.func37, Try.ntmps37
    go_wp2
    have hi1 : (0 : Int) ≤ (k : Int) := by omega
    have hi2 : (k : Int) ≤ (cap : Int) := by omega
    have hi3 : (0 : Int) ≤ (k : Int) + 1 := by omega
    have hi4 : (k : Int) + 1 ≤ (n : Int) := by omega
    have hi5 : ((k : Int) + 1).toNat = k + 1 := by omega
    go_region_law (refine step_append_fits (w := w.drew) (by rfl) _ _ _ (by rfl) base 52 i0 2 Try.underlying24 hi0 hI1 g k cap _ (by rfl) (own_drew ho1) ⟨g, (k + 1) * 2, none⟩ (n - (k + 1)) (cap - (k + 1)) ((xs.drop (k + 1)).flatMap Timer.cells) (by rfl) HNl.out (fun j u hu => by rw [addr_add_none]; exact HNews.out j u hu) H1.out (by omega) ?_; intro w1 ho2 hg2)
    clear hi1 hi2 hi3 hi4 hi5
    have hsum : k + (n - (k + 1)) = n - 1 := by omega
    rw [hsum] at ho2
    simp only [hsum]
    clear hsum
    have hj1 : (0 : Int) ≤ ((n - 1 : Nat) : Int) := by omega
    have hj2 : ((n - 1 : Nat) : Int) ≤ (n : Int) := by omega
    have hj3 : ¬ cap = n - 1 := by omega
    have hj4 : (n : Int) ≤ (cap : Int) := by omega
    obtain ⟨w2, hrun, ho3, hg3⟩ := run_clear_tail (P := Try.prog) (w := w1) base 24 0 52 (.agg #[.int .i64 0, .int .i64 0]) 2 Try.underlying24 hzv rfl (by simp [Value.cells, Value.oneCell']) ho2 ⟨g, (n - 1) * 2, none⟩ (n - (n - 1)) (cap - (n - 1)) (fun _ => rfl) (by omega)
    go_wp2
    go_ret
    refine ⟨rfl, ?_, ?_⟩
    · rw [← HCat.out]; exact ho3
    · exact grown_trans (w1 := w1) ⟨hg2.os, hg2.tape, hg2.output, hg2.size, hg2.block⟩ hg3
end Go.Proofs.Ythahnaigdoiddaa

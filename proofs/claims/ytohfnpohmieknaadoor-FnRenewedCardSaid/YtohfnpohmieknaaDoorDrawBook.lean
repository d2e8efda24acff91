/- A drawn book. -/
import Derived.Test.YtohfnpohmieknaaDoorBendLease
import Derived.Test.YtohfnpohmieknaaDoorImplRenewL
import Derived.Deep.DeepCutAuto
set_option linter.unusedSimpArgs false
set_option linter.unusedVariables false
set_option maxRecDepth 20000
namespace Go.Proofs.YtohfnpohmieknaaDoor
open Go.RowKit
variable {B : Nat}
theorem own_maxL {w : World} {base n c size : Nat} {e : TypeId} {A : Option Addr} {xs : List Value} (h : w.ownsRow base e size (.slice A n c) n xs) : c ≤ 9223372036854775807 := by
  rcases h.2 with ⟨hv, hn⟩ | ⟨g, cap, cur, hv, _, _, _, hcm, _⟩
  · simp only [Value.slice.injEq] at hv; omega
  · simp only [Value.slice.injEq] at hv; simp only [maxLen] at hcm; omega
theorem lease_set6 {ls : List Lease} {i : Nat} {l : Lease} (h : ls[i]? = some l) (l' : Lease) : ((((((ls.flatMap Lease.cells).set (i * 6) (.int .i64 l'.Id)).set (i * 6 + 1) (.int .i64 l'.Token)).set (i * 6 + 2) (.string l'.Path)).set (i * 6 + 3) (.int .i64 l'.Made)).set (i * 6 + 4) (.int .i64 l'.Ends)).set (i * 6 + 5) (.int .i64 l'.Limit) = (ls.set i l').flatMap Lease.cells := by
  obtain ⟨hi, hli⟩ := List.getElem?_eq_some_iff.1 h
  obtain ⟨l1, l2, rfl, hl⟩ : ∃ l1 l2, ls = l1 ++ l :: l2 ∧ l1.length = i := ⟨ls.take i, ls.drop (i + 1), by rw [← hli, ← List.drop_eq_getElem_cons hi, List.take_append_drop], by rw [List.length_take]; omega⟩
  have hs : (l1 ++ l :: l2).set i l' = l1 ++ l' :: l2 := by
    rw [List.set_append_right _ _ (by omega), hl, Nat.sub_self]
    rfl
  have hf : (l1.flatMap Lease.cells).length = i * 6 := by rw [lease_flat_len, hl]
  rw [hs, List.flatMap_append, List.flatMap_append, List.flatMap_cons, List.flatMap_cons]
  generalize l1.flatMap Lease.cells = a at hf
  generalize l2.flatMap Lease.cells = b
  generalize i * 6 = o at hf ⊢
  subst hf
  simp only [Lease.cells, List.cons_append, List.nil_append]
  rw [List.set_append_right _ _ (by omega), Nat.sub_self]
  rw [List.set_append_right _ _ (by omega), List.set_append_right _ _ (by omega), List.set_append_right _ _ (by omega), List.set_append_right _ _ (by omega), List.set_append_right _ _ (by omega)]
  simp only [Nat.add_sub_cancel_left]
  rfl
theorem own_put6 {w : World} {base g n cap i : Nat} {e : TypeId} {ls : List Lease} {l : Lease} (h : w.ownsRow base e 6 (.slice (some ⟨g, 0, none⟩) n cap) n (ls.flatMap Lease.cells)) (hd : ls[i]? = some l) (l' : Lease) :
    World.ownsRow (World.setCell (World.setCell (World.setCell (World.setCell (World.setCell (World.setCell w ⟨g, i * 6, none⟩ (.int .i64 l'.Id)) ⟨g, i * 6 + 1, none⟩ (.int .i64 l'.Token)) ⟨g, i * 6 + 2, none⟩ (.string l'.Path)) ⟨g, i * 6 + 3, none⟩ (.int .i64 l'.Made)) ⟨g, i * 6 + 4, none⟩ (.int .i64 l'.Ends)) ⟨g, i * 6 + 5, none⟩ (.int .i64 l'.Limit)) base e 6 (.slice (some ⟨g, 0, none⟩) n cap) n ((ls.set i l').flatMap Lease.cells) := by
  rw [← lease_set6 hd l']
  exact (((((((h.stored _ _).1).stored _ _).1.stored _ _).1.stored _ _).1.stored _ _).1.stored _ _).1
/-- The cells of an element of an own row, all six. -/
theorem lease_own6 {w : World} {base g n cap k : Nat} {e : TypeId} {ls : List Lease} {l : Lease} (h : w.ownsRow base e 6 (.slice (some ⟨g, 0, none⟩) n cap) n (ls.flatMap Lease.cells)) (hl : ls[k]? = some l) :
    w.cell? ⟨g, k * 6, none⟩ = some (.int .i64 l.Id) ∧ w.cell? ⟨g, k * 6 + 1, none⟩ = some (.int .i64 l.Token) ∧ w.cell? ⟨g, k * 6 + 2, none⟩ = some (.string l.Path) ∧ w.cell? ⟨g, k * 6 + 3, none⟩ = some (.int .i64 l.Made) ∧ w.cell? ⟨g, k * 6 + 4, none⟩ = some (.int .i64 l.Ends) ∧ w.cell? ⟨g, k * 6 + 5, none⟩ = some (.int .i64 l.Limit) := by
  obtain ⟨hk, rfl⟩ := List.getElem?_eq_some_iff.1 hl
  obtain ⟨b, off, e1, -, hc⟩ := Reads.of_own h (by rw [lease_flat_len]; omega)
  simp only [Option.some.injEq, Addr.mk.injEq, and_true] at e1
  obtain ⟨rfl, rfl⟩ := e1
  simp only [Nat.zero_add] at hc
  have hf := fun i hi => flat_at Lease.cells 6 Lease.len ls k i hk hi
  exact ⟨hc _ _ (hf 0 (by omega)), hc _ _ (hf 1 (by omega)), hc _ _ (hf 2 (by omega)), hc _ _ (hf 3 (by omega)), hc _ _ (hf 4 (by omega)), hc _ _ (hf 5 (by omega))⟩
/-- The book under way. -/
structure BS (B g b4 b5 : Nat) (w0 w : World) (A : Option Addr) (n c : Nat) (ls : List Lease) : Prop where
  z : Blk w b4 26 #[.slice none 0 0]
  b : Blk w b5 26 #[.slice A n c]
  o : w.ownsRow (b5 + 1) 32 6 (.slice A n c) n (ls.flatMap Lease.cells)
  cur : Cur B w g
  out : Out (fun q => q = g) w0 w
  g4 : g < b4
  b45 : b4 < b5
  lo : w0.heap.size ≤ b4
theorem BS.move {g b4 b5 n c : Nat} {w0 w w' : World} {A : Option Addr} {ls : List Lease} (h : BS B g b4 b5 w0 w A n c ls) (ho : Out (fun q => q = g) w w') (hc : Cur B w' g) : BS B g b4 b5 w0 w' A n c ls :=
  ⟨h.z.out ho (by have := h.g4; omega), h.b.out ho (by have := h.g4; have := h.b45; omega), own_off h.o ho (fun q hq e => by have := (h.o.lt q hq).1; have := h.g4; have := h.b45; omega), hc, h.out.trans ho, h.g4, h.b45, h.lo⟩
theorem BS.ne {g b4 b5 n c : Nat} {w0 w : World} {A : Option Addr} {ls : List Lease} (h : BS B g b4 b5 w0 w A n c ls) (q : Nat) (hq : q ≤ b5) : some q ≠ (Value.slice A n c).ownBlock := fun e => by have := (h.o.lt _ e.symm).1; omega
theorem BS.push {g b4 b5 n c gg cap : Nat} {w0 w wf : World} {A : Option Addr} {ls : List Lease} {l : Lease} {o : Obj} (h : BS B g b4 b5 w0 w A n c ls)
    (hown : wf.ownsRow (b5 + 1) 32 6 (.slice (some ⟨gg, 0, none⟩) (n + 1) cap) (n + 1) (ls.flatMap Lease.cells ++ [.int .i64 l.Id, .int .i64 l.Token, .string l.Path, .int .i64 l.Made, .int .i64 l.Ends, .int .i64 l.Limit])) (hgr : (w.alloc o).grownBy wf (Value.slice A n c).ownBlock) :
    BS B g b4 b5 w0 (wf.setCell ⟨b5, 0, none⟩ (.slice (some ⟨gg, 0, none⟩) (n + 1) cap)) (some ⟨gg, 0, none⟩) (n + 1) cap (ls ++ [l]) := by
  have h4 := h.g4
  have h5 := h.b45
  have hlo := h.lo
  have hBg := h.cur.le
  have hne : ∀ q, (Value.slice A n c).ownBlock = some q → b5 + 1 ≤ q := fun q e => (h.o.lt q e).1
  have hcb : Cur B (w.alloc o) g := h.cur.below ((Below.refl _ w).alloc (Nat.le_refl _) o)
  refine ⟨((h.z.alloc o).grown hgr (h.ne b4 (by omega))).far (by first | omega | (simp; done) | (simp; omega)) _, ((h.b.alloc o).grown hgr (h.ne b5 (by omega))).set_ 0 _, ?_, (hcb.out (out_gr hgr) (fun q e => by have := hne q e; omega)).out (out_set _ _ _ _) (fun q hq => by omega), (Out.growR (h.out.alloc o) hgr (fun q e => by have := hne q e; omega)).newer (by first | omega | (simp; done) | (simp; omega)) _, h4, h5, hlo⟩
  refine own_setCell ?_ (by first | omega | (simp; done) | (simp; omega)) _
  rw [List.flatMap_append]
  simpa [Lease.cells] using hown
set_option maxHeartbeats 12800000 in
theorem spec_l09DrawBook (g N : Nat) (w : World) (hc : Cur B w g) (hN : N ≤ 151) :
    Calls Tryd.prog 21 #[.pointer (some ⟨g, 0, none⟩), .int .i64 N] w fun e w' => ∃ (A : Option Addr) (c : Nat) (ls : List Lease), e = .returned (.agg #[.slice A N c]) ∧ ls.length = N ∧ RdIn w' (Low w.heap.size) A (ls.flatMap Lease.cells) ∧ N ≤ c ∧ c ≤ 9223372036854775807 ∧ (∀ l ∈ ls, l.Path.size ≤ 200) ∧ Cur B w' g ∧ Out (fun q => q = g) w w' := by
  obtain ⟨i0, hi0, hI0, hI1, hI2⟩ := info_parts info_Lease
  have hgl := hc.lt
  have hBg := hc.le
  have hbA : Below w.heap.size w ((w.alloc (.cells #[.slice none 0 0] 26)).alloc (.cells #[.slice none 0 0] 26)) := by (repeat (first | (with_reducible exact Below.refl _ _) | (with_reducible assumption) | ((with_reducible refine Below.setCell ?_ ?_ _); rotate_left; focus (first | omega | (simp; done) | (simp; omega))) | ((with_reducible refine Below.alloc ?_ ?_ _); rotate_left; focus (first | omega | (simp; done) | (simp; omega))) | (with_reducible refine Below.drew ?_) | (with_reducible refine below_drewN ?_ _) | (refine Below.trans ?_ (Below.mono (by with_reducible assumption) (by (first | omega | (simp; done) | (simp; omega)))))))
  have hR0 : BS B g w.heap.size (w.heap.size + 1) w ((w.alloc (.cells #[.slice none 0 0] 26)).alloc (.cells #[.slice none 0 0] 26)) none 0 0 [] := ⟨(Blk.new' rfl).alloc _, Blk.new' (by simp), World.ownsRow_nil _ _ _ _, hc.below hbA, Out.of_below hbA, hgl, by omega, Nat.le_refl _⟩
  go_enter Tryd.func21, Tryd.ntmps21
  go_wp2_with fail
  generalize ((w.alloc (.cells #[.slice none 0 0] 26)).alloc (.cells #[.slice none 0 0] 26)) = wa at *
  obtain ⟨b5, hb5e⟩ : ∃ b, b = w.heap.size + 1 := ⟨_, rfl⟩
  obtain ⟨b4, hb4e⟩ : ∃ b, b = w.heap.size := ⟨_, rfl⟩
  rw [← hb5e, ← hb4e] at hR0
  rw [← hb5e, ← hb4e]
  have hB4 : B ≤ b4 := by omega
  clear hb5e hb4e hbA hc
  go_loopw [6, 7] (fun t6 t7 wr => ∃ (k : Nat) (idv : Int) (A : Option Addr) (c : Nat) (ls : List Lease), t6 = .int .i64 idv ∧ t7 = .int .i64 k ∧ k ≤ N ∧ 0 ≤ idv ∧ idv ≤ 4 * k ∧ Hid (ls.length = k) ∧ Hid (∀ l ∈ ls, LB l) ∧ BS B g b4 b5 w wr A k c ls) (fun _ t7 _ => N - (intOf t7).toNat)
  case atStart => exact ⟨0, 0, none, 0, [], rfl, rfl, Nat.zero_le _, by omega, by omega, rfl, Lib.hid (by simp), hR0⟩
  case round =>
    clear hR0
    obtain ⟨k, idv, A, c, ls, rfl, rfl, hk, hid0, hid1, hll, hlb, hR⟩ := hrel
    have h4 := hR.g4; have h5 := hR.b45; have h0 := hR.lo
    by_cases hlt : k < N
    · have hltI : (k : Int) < (N : Int) := by omega
      have hw0 : IntKind.i64.wrap (idv + 1) = idv + 1 := IntWalk.i64_in _ (by omega)
      go_wp2_with fail
      refine (spec_l01Below g 3 _ hR.cur (by omega)).mono ?_
      rintro e w6 ⟨x, rfl, hx0, hx1, -, hd6⟩
      have hx := hx1 (by omega)
      have hR6 := hR.move hd6.2 hd6.1
      have hw1 : IntKind.i64.wrap (idv + 1 + x) = idv + 1 + x := IntWalk.i64_in _ (by omega)
      clear hR hd6 hx1
      have hcB := hR6.b.cell; have hfB := hR6.b.frozen; have hlB := hR6.b.lt; have hcBd := hR6.b.drew.cell
      go_upto_region 7 with fail
      clear hw0 hw1
      obtain ⟨idn, hidn⟩ : ∃ i, idv + 1 + x = i := ⟨_, rfl⟩
      rw [hidn]
      go_wp2_with fail
      go_region_law (first | (go_loud (refine step_append_lies _ (by rfl) _ _ _ (by rfl) (b5 + 1) 32 i0 _ 6 56 Tryd.underlying24 hi0 hI0 hI1 hI2 rfl (by omega) (.slice A k c) k _ (by rfl) (RA.o.alloc _) ⟨wA.heap.size, 0, none⟩ 1 1 [.int .i64 l.Id, .int .i64 l.Token, .string l.Path, .int .i64 l.Made, .int .i64 l.Ends, .int .i64 l.Limit] (by rfl) (by rfl) (World.news_of_block (cs := #[.int .i64 l.Id, .int .i64 l.Token, .string l.Path, .int .i64 l.Made, .int .i64 l.Ends, .int .i64 l.Limit]) (t := 32) (fr := (0, 0)) (heap_alloc_new wA _)) (by simp [Value.oneCell']) (by omega) (by simp only [maxLen]; omega) (by omega) (by simp; omega) (wA.heap.size + 1) (by simp) ?_; intro gg cap wf hown1 hgrow hat hlt1; have BY := Blk.grown (RA.b.alloc (.cells #[.int .i64 l.Id, .int .i64 l.Token, .string l.Path, .int .i64 l.Made, .int .i64 l.Ends, .int .i64 l.Limit] 32)) hgrow (RA.ne b5 (by omega)); have hcY := BY.cell; have hfY := BY.frozen)) | (go_simp; go_at_call 28; refine (spec_l09DrawLease g idn _ (hR6.cur.below (by (repeat (first | (with_reducible exact Below.refl _ _) | (with_reducible assumption) | ((with_reducible refine Below.setCell ?_ ?_ _); rotate_left; focus (first | omega | (simp; done) | (simp; omega))) | ((with_reducible refine Below.alloc ?_ ?_ _); rotate_left; focus (first | omega | (simp; done) | (simp; omega))) | (with_reducible refine Below.drew ?_) | (with_reducible refine below_drewN ?_ _) | (refine Below.trans ?_ (Below.mono (by with_reducible assumption) (by (first | omega | (simp; done) | (simp; omega)))))))))).mono ?_; rintro e wA ⟨l, rfl, hlbl, hcuA, hdA⟩; have hOg : Out (fun q => q = g) w6 wA := (Out.trans (Out.of_below (by (repeat (first | (with_reducible exact Below.refl _ _) | (with_reducible assumption) | ((with_reducible refine Below.setCell ?_ ?_ _); rotate_left; focus (first | omega | (simp; done) | (simp; omega))) | ((with_reducible refine Below.alloc ?_ ?_ _); rotate_left; focus (first | omega | (simp; done) | (simp; omega))) | (with_reducible refine Below.drew ?_) | (with_reducible refine below_drewN ?_ _) | (refine Below.trans ?_ (Below.mono (by with_reducible assumption) (by (first | omega | (simp; done) | (simp; omega))))))))) hdA); have RA := hR6.move hOg hcuA; have hcA := RA.b.cell; have hfA := RA.b.frozen; have hlA := RA.b.lt; have hcA2 := (RA.b.alloc (.cells #[.int .i64 l.Id, .int .i64 l.Token, .string l.Path, .int .i64 l.Made, .int .i64 l.Ends, .int .i64 l.Limit] 32)).cell))
      all_goals
        have R9 := RA.push hown1 hgrow
        go_wp2_with fail
        go_roundw
        case rel =>
          refine ⟨k + 1, idn, some ⟨gg, 0, none⟩, cap, ls ++ [l], rfl, by go_num, by omega, by omega, by omega, Lib.hid (by rw [List.length_append, hll.out]; rfl), Lib.hid (fun m hm => ?_), R9⟩
          rcases List.mem_append.1 hm with h | h
          · exact hlb.out m h
          · rw [List.mem_singleton.1 h]; exact hlbl
        case measure => simp [intOf]; omega
    · obtain rfl : k = N := by omega
      go_wp2_with fail
      refine (spec_l01Once g 25 _ hR.cur (by omega)).mono ?_
      rintro e w6 ⟨bb, rfl, hd6⟩
      have hR6 := hR.move hd6.2 hd6.1
      clear hR hd6
      have Hll := hll
      have Hps := Lib.hid (fun l hl => (hlb.out l hl).1)
      cases bb
      · have hR := hR6
        clear hR6
        have hcB := hR.b.cell; have hcZ := hR.z.cell; have hfZ := hR.z.frozen; have hlZ := hR.z.lt
        go_wp2_with fail
        refine bodyPost_ret (v := .agg #[.slice A k c]) (by simp [results, Tryd.results21, go_sem, hcZ, hfZ]) rfl ⟨A, c, ls, rfl, Hll.out, ?_, own_cap hR.o, own_maxL hR.o, Hps.out, hR.cur.out (out_set _ _ _ _) (fun q hq => by omega), hR.out.join (out_set _ _ _ _) (fun q hq => by right; omega)⟩
        exact RdIn.own (own_setCell hR.o (by simp; omega) _) (fun q hq => Or.inl (by have : q < w.heap.size := hq; omega))
      by_cases hk0 : 0 < k
      rotate_left
      · have hk0I : ¬ (0 : Int) < (k : Int) := by omega
        have hR := hR6
        clear hR6
        have hcB := hR.b.cell; have hcZ := hR.z.cell; have hfZ := hR.z.frozen; have hlZ := hR.z.lt
        go_wp2_with fail
        refine bodyPost_ret (v := .agg #[.slice A k c]) (by simp [results, Tryd.results21, go_sem, hcZ, hfZ]) rfl ⟨A, c, ls, rfl, Hll.out, ?_, own_cap hR.o, own_maxL hR.o, Hps.out, hR.cur.out (out_set _ _ _ _) (fun q hq => by omega), hR.out.join (out_set _ _ _ _) (fun q hq => by right; omega)⟩
        exact RdIn.own (own_setCell hR.o (by simp; omega) _) (fun q hq => Or.inl (by have : q < w.heap.size := hq; omega))
      have hk0I : (0 : Int) < (k : Int) := by omega
      clear Hll Hps
      obtain ⟨gq, cq, hv, hq1, hq2⟩ := hR6.o.form (by omega)
      simp only [Value.slice.injEq, true_and] at hv
      obtain ⟨rfl, rfl⟩ := hv
      go_wp2_with fail
      refine (spec_l01Below g k _ hR6.cur (by omega)).mono ?_
      rintro e w8 ⟨x, rfl, hx0, hx1, -, hd8⟩
      have hx := hx1 (by omega)
      obtain ⟨j, rfl⟩ : ∃ j : Nat, x = j := ⟨x.toNat, by omega⟩
      have hR8 := hR6.move hd8.2 hd8.1
      clear hR6 hd8 hx1
      have hkl : j < ls.length := by rw [hll.out]; omega
      have hm := List.getElem?_eq_getElem hkl
      have hlbm := Lib.hid (hlb.out _ (List.getElem_mem hkl))
      generalize ls[j]'hkl = m at hm hlbm
      have HKd := Lib.hid hm
      obtain ⟨r0, r1, r2, r3, r4, r5⟩ := lease_own6 hR8.o hm
      have hkI : (j : Int) < (k : Int) := by omega
      have hgq := (hR8.o.lt gq rfl).2
      have hBD := Lib.hid (fun (w' : World) (hb : Below w8.heap.size w8 w') => spec_l09BendLease g m w' (hR8.cur.below hb) hlbm.out)
      clear hm hkl
      have hcB := hR8.b.cell; have hfB := hR8.b.frozen; have hlB := hR8.b.lt
      go_wp2_with fail
      go_region_law (go_simp; go_at_call 29; ((with_reducible refine (hBD.out _ ?_).mono ?_); (focus (repeat (first | (with_reducible exact Below.refl _ _) | (with_reducible assumption) | ((with_reducible refine Below.setCell ?_ ?_ _); rotate_left; focus (first | omega | (simp; done) | (simp; omega))) | ((with_reducible refine Below.alloc ?_ ?_ _); rotate_left; focus (first | omega | (simp; done) | (simp; omega))) | (with_reducible refine Below.drew ?_) | (with_reducible refine below_drewN ?_ _) | (refine Below.trans ?_ (Below.mono (by with_reducible assumption) (by (first | omega | (simp; done) | (simp; omega))))))))); rintro e wA ⟨m', rfl, hps, hcuA, hdA⟩; have hOg : Out (fun q => q = g) w8 wA := (Out.trans (Out.of_below (by (repeat (first | (with_reducible exact Below.refl _ _) | (with_reducible assumption) | ((with_reducible refine Below.setCell ?_ ?_ _); rotate_left; focus (first | omega | (simp; done) | (simp; omega))) | ((with_reducible refine Below.alloc ?_ ?_ _); rotate_left; focus (first | omega | (simp; done) | (simp; omega))) | (with_reducible refine Below.drew ?_) | (with_reducible refine below_drewN ?_ _) | (refine Below.trans ?_ (Below.mono (by with_reducible assumption) (by (first | omega | (simp; done) | (simp; omega))))))))) hdA); have RA := hR8.move hOg hcuA; have hcA := RA.b.cell; have hfA := RA.b.frozen; obtain ⟨s0, s1, s2, s3, s4, s5⟩ := lease_own6 RA.o HKd.out; have f0 := RA.o.frozenAt (j * 6); have f1 := RA.o.frozenAt (j * 6 + 1); have f2 := RA.o.frozenAt (j * 6 + 2); have f3 := RA.o.frozenAt (j * 6 + 3); have f4 := RA.o.frozenAt (j * 6 + 4); have f5 := RA.o.frozenAt (j * 6 + 5))
      all_goals
        have hO6 : Out (fun q => q = gq) wA (World.setCell (World.setCell (World.setCell (World.setCell (World.setCell (World.setCell wA ⟨gq, j * 6, none⟩ (.int .i64 m'.Id)) ⟨gq, j * 6 + 1, none⟩ (.int .i64 m'.Token)) ⟨gq, j * 6 + 2, none⟩ (.string m'.Path)) ⟨gq, j * 6 + 3, none⟩ (.int .i64 m'.Made)) ⟨gq, j * 6 + 4, none⟩ (.int .i64 m'.Ends)) ⟨gq, j * 6 + 5, none⟩ (.int .i64 m'.Limit)) := (Out.trans (Out.trans (Out.trans (Out.trans (Out.trans (out_set _ _ _ _) (out_set _ _ _ _)) (out_set _ _ _ _)) (out_set _ _ _ _)) (out_set _ _ _ _)) (out_set _ _ _ _))
        have hz : Blk (World.setCell (World.setCell (World.setCell (World.setCell (World.setCell (World.setCell wA ⟨gq, j * 6, none⟩ (.int .i64 m'.Id)) ⟨gq, j * 6 + 1, none⟩ (.int .i64 m'.Token)) ⟨gq, j * 6 + 2, none⟩ (.string m'.Path)) ⟨gq, j * 6 + 3, none⟩ (.int .i64 m'.Made)) ⟨gq, j * 6 + 4, none⟩ (.int .i64 m'.Ends)) ⟨gq, j * 6 + 5, none⟩ (.int .i64 m'.Limit)) b4 26 #[.slice none 0 0] := RA.z.out hO6 (by omega)
        have hb : Blk (World.setCell (World.setCell (World.setCell (World.setCell (World.setCell (World.setCell wA ⟨gq, j * 6, none⟩ (.int .i64 m'.Id)) ⟨gq, j * 6 + 1, none⟩ (.int .i64 m'.Token)) ⟨gq, j * 6 + 2, none⟩ (.string m'.Path)) ⟨gq, j * 6 + 3, none⟩ (.int .i64 m'.Made)) ⟨gq, j * 6 + 4, none⟩ (.int .i64 m'.Ends)) ⟨gq, j * 6 + 5, none⟩ (.int .i64 m'.Limit)) b5 26 #[.slice (some ⟨gq, 0, none⟩) k c] := RA.b.out hO6 (by omega)
        have ho := own_put6 RA.o HKd.out m'
        have hcu : Cur B (World.setCell (World.setCell (World.setCell (World.setCell (World.setCell (World.setCell wA ⟨gq, j * 6, none⟩ (.int .i64 m'.Id)) ⟨gq, j * 6 + 1, none⟩ (.int .i64 m'.Token)) ⟨gq, j * 6 + 2, none⟩ (.string m'.Path)) ⟨gq, j * 6 + 3, none⟩ (.int .i64 m'.Made)) ⟨gq, j * 6 + 4, none⟩ (.int .i64 m'.Ends)) ⟨gq, j * 6 + 5, none⟩ (.int .i64 m'.Limit)) g := RA.cur.out hO6 (fun q hq => by omega)
        have hOo : Out (fun q => q = g) w (World.setCell (World.setCell (World.setCell (World.setCell (World.setCell (World.setCell wA ⟨gq, j * 6, none⟩ (.int .i64 m'.Id)) ⟨gq, j * 6 + 1, none⟩ (.int .i64 m'.Token)) ⟨gq, j * 6 + 2, none⟩ (.string m'.Path)) ⟨gq, j * 6 + 3, none⟩ (.int .i64 m'.Made)) ⟨gq, j * 6 + 4, none⟩ (.int .i64 m'.Ends)) ⟨gq, j * 6 + 5, none⟩ (.int .i64 m'.Limit)) := RA.out.join hO6 (fun q hq => by right; omega)
        have hR : BS B g b4 b5 w (World.setCell (World.setCell (World.setCell (World.setCell (World.setCell (World.setCell wA ⟨gq, j * 6, none⟩ (.int .i64 m'.Id)) ⟨gq, j * 6 + 1, none⟩ (.int .i64 m'.Token)) ⟨gq, j * 6 + 2, none⟩ (.string m'.Path)) ⟨gq, j * 6 + 3, none⟩ (.int .i64 m'.Made)) ⟨gq, j * 6 + 4, none⟩ (.int .i64 m'.Ends)) ⟨gq, j * 6 + 5, none⟩ (.int .i64 m'.Limit)) (some ⟨gq, 0, none⟩) k c (ls.set j m') := ⟨hz, hb, ho, hcu, hOo, h4, h5, h0⟩
        have Hll : Hid ((ls.set j m').length = k) := Lib.hid (by rw [List.length_set, hll.out])
        have Hps := Lib.hid (fun l (hl : l ∈ ls.set j m') => (by
          rcases List.mem_or_eq_of_mem_set hl with h | rfl
          · exact (hlb.out l h).1
          · exact hps : l.Path.size ≤ 200))
        clear hz hb ho hcu hOo hcA hfA s0 s1 s2 s3 s4 s5 f0 f1 f2 f3 f4 f5 hcB hfB hlB RA hO6
        generalize hW : (World.setCell (World.setCell (World.setCell (World.setCell (World.setCell (World.setCell wA ⟨gq, j * 6, none⟩ (.int .i64 m'.Id)) ⟨gq, j * 6 + 1, none⟩ (.int .i64 m'.Token)) ⟨gq, j * 6 + 2, none⟩ (.string m'.Path)) ⟨gq, j * 6 + 3, none⟩ (.int .i64 m'.Made)) ⟨gq, j * 6 + 4, none⟩ (.int .i64 m'.Ends)) ⟨gq, j * 6 + 5, none⟩ (.int .i64 m'.Limit)) = wz at *
        have hcB := hR.b.cell; have hcZ := hR.z.cell; have hfZ := hR.z.frozen; have hlZ := hR.z.lt
        go_wp2_with fail
        refine bodyPost_ret (v := .agg #[.slice (some ⟨gq, 0, none⟩) k c]) (by simp [results, Tryd.results21, go_sem, hcZ, hfZ]) rfl ⟨some ⟨gq, 0, none⟩, c, ls.set j m', rfl, Hll.out, ?_, own_cap hR.o, own_maxL hR.o, Hps.out, hR.cur.out (out_set _ _ _ _) (fun q hq => by omega), hR.out.join (out_set _ _ _ _) (fun q hq => by right; omega)⟩
        exact RdIn.own (own_setCell hR.o (by simp; omega) _) (fun q hq => Or.inl (by have : q < w.heap.size := hq; omega))
end Go.Proofs.YtohfnpohmieknaaDoor

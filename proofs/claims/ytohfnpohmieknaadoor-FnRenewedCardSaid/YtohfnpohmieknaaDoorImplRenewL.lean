/- impl.renewLease and impl.RenewLease. -/
import Derived.Test.YtohfnpohmieknaaDoorPureRenewL
import Derived.Test.YtohfnpohmieknaaDoorAddLib
import Derived.Deep.DeepCutAuto
set_option linter.unusedSimpArgs false
set_option linter.unusedVariables false
set_option maxRecDepth 20000
namespace Go.Proofs.YtohfnpohmieknaaDoor
open Go.RowKit
theorem own_off {w w' : World} {S : Nat → Prop} {base : Nat} {e : TypeId} {size n : Nat} {v : Value} {xs : List Value} (h : w.ownsRow base e size v n xs) (ho : Out S w w') (hS : ∀ q, v.ownBlock = some q → ¬ S q) : w'.ownsRow base e size v n xs := by
  refine ⟨h.1, ?_⟩
  rcases h.2 with hn | ⟨g, cap, cur, rfl, h0, hc, rest⟩
  · exact .inl hn
  · exact .inr ⟨g, cap, cur, rfl, h0, by rw [ho.block g (h.lt g rfl).2 (hS g rfl)]; exact hc, rest⟩
theorem lease_flat_len (ls : List Lease) : (ls.flatMap Lease.cells).length = ls.length * 6 := flat_length Lease.cells 6 Lease.len ls
theorem lease_put {ls : List Lease} {i : Nat} {l : Lease} (h : ls[i]? = some l) (e : Int) : (ls.flatMap Lease.cells).set (i * 6 + 4) (.int .i64 e) = (ls.set i (lendL l e)).flatMap Lease.cells := by
  obtain ⟨hi, hli⟩ := List.getElem?_eq_some_iff.1 h
  obtain ⟨l1, l2, rfl, hl⟩ : ∃ l1 l2, ls = l1 ++ l :: l2 ∧ l1.length = i := ⟨ls.take i, ls.drop (i + 1), by rw [← hli, ← List.drop_eq_getElem_cons hi, List.take_append_drop], by rw [List.length_take]; omega⟩
  have hs : (l1 ++ l :: l2).set i (lendL l e) = l1 ++ lendL l e :: l2 := by
    rw [List.set_append_right _ _ (by omega), hl, Nat.sub_self]
    rfl
  have hf : (l1.flatMap Lease.cells).length = i * 6 := by rw [lease_flat_len, hl]
  rw [hs, List.flatMap_append, List.flatMap_append, List.flatMap_cons, List.flatMap_cons]
  generalize l1.flatMap Lease.cells = a at hf
  generalize l2.flatMap Lease.cells = b
  generalize i * 6 = o at hf ⊢
  subst hf
  rw [List.set_append_right _ _ (by omega), Nat.add_sub_cancel_left]
  rfl
/-- The cells of an element of an own row of leases. -/
theorem lease_own {w : World} {base g n cap k : Nat} {e : TypeId} {ls : List Lease} {l : Lease} (h : w.ownsRow base e 6 (.slice (some ⟨g, 0, none⟩) n cap) n (ls.flatMap Lease.cells)) (hn : ls.length = n) (hl : ls[k]? = some l) :
    w.cell? ⟨g, k * 6, none⟩ = some (.int .i64 l.Id) ∧ w.cell? ⟨g, k * 6 + 3, none⟩ = some (.int .i64 l.Made) ∧ w.cell? ⟨g, k * 6 + 4, none⟩ = some (.int .i64 l.Ends) ∧ w.cell? ⟨g, k * 6 + 5, none⟩ = some (.int .i64 l.Limit) := by
  obtain ⟨hk, rfl⟩ := List.getElem?_eq_some_iff.1 hl
  obtain ⟨b, off, e1, -, hc⟩ := Reads.of_own h (by rw [lease_flat_len]; omega)
  simp only [Option.some.injEq, Addr.mk.injEq, and_true] at e1
  obtain ⟨rfl, rfl⟩ := e1
  simp only [Nat.zero_add] at hc
  have hf := fun i hi => flat_at Lease.cells 6 Lease.len ls k i hk hi
  exact ⟨hc _ _ (hf 0 (by omega)), hc _ _ (hf 3 (by omega)), hc _ _ (hf 4 (by omega)), hc _ _ (hf 5 (by omega))⟩
set_option maxHeartbeats 6400000 in
theorem impl_renewLease (A0 : Option Addr) (c0 : Nat) (ls : List Lease) (id now by_ : Int) (w : World) (hr : SlRd LeaseR w w.heap.size (.slice A0 ls.length c0) ls) (hm : szList LeaseR ls ≤ 1048576) (hok : bookOk ls = true) :
    Calls Tryd.prog 17 #[.agg #[.slice A0 ls.length c0], .int .i64 id, .int .i64 now, .int .i64 by_] w fun e w' => ∃ A d, e = .returned (.tuple #[.agg #[.slice A ls.length d], .int .i64 (renC ls id now by_)]) ∧ w'.ownsRow w.heap.size 32 6 (.slice A ls.length d) ls.length ((renL ls id now by_).flatMap Lease.cells) ∧ Below w.heap.size w w' := by
  have hml : ls.length ≤ 1048576 := Nat.le_trans (Nat.le_add_right _ _) hm
  have HClone := Lib.hid (fun (w' : World) (hb : Below w.heap.size w w') => impl_cloneBook A0 c0 ls w' (hr.keep hb hb.size) hml)
  have HIdx := Lib.hid (fun (w' : World) (hb : Below w.heap.size w w') => impl_leaseIndexL [.slice A0 ls.length c0] ⟨ls⟩ id w' (of_rd_Book (x := ⟨ls⟩) (hr.keep hb hb.size)) (by rw [sz_Book]; exact hm))
  dsimp only at HIdx
  have HCS := Lib.hid (idxL_cases ls id)
  have HOk := Lib.hid hok
  clear hr hm hok
  obtain ⟨n, hn⟩ : ∃ m, ls.length = m := ⟨_, rfl⟩
  rw [hn] at HClone HIdx hml ⊢
  have Hn := Lib.hid hn
  clear hn
  go_enter Tryd.func17, Tryd.ntmps17
  go_wp2_with fail
  have hbA : Below w.heap.size w ((w.alloc (.cells #[.slice A0 n c0] 26)).alloc (.cells #[.slice none 0 0] 26)) := by (repeat (first | (with_reducible exact Below.refl _ _) | (with_reducible assumption) | ((with_reducible refine Below.setCell ?_ ?_ _); rotate_left; focus (first | omega | (simp; done) | (simp; omega))) | ((with_reducible refine Below.alloc ?_ ?_ _); rotate_left; focus (first | omega | (simp; done) | (simp; omega))) | (with_reducible refine Below.drew ?_) | (with_reducible refine below_drewN ?_ _) | (refine Below.trans ?_ (Below.mono (by with_reducible assumption) (by (first | omega | (simp; done) | (simp; omega)))))))
  have B4 : Blk ((w.alloc (.cells #[.slice A0 n c0] 26)).alloc (.cells #[.slice none 0 0] 26)) w.heap.size 26 #[.slice A0 n c0] := (Blk.new' rfl).alloc _
  have B8 : Blk ((w.alloc (.cells #[.slice A0 n c0] 26)).alloc (.cells #[.slice none 0 0] 26)) (w.heap.size + 1) 26 #[.slice none 0 0] := Blk.new' (by simp)
  have hsA : Hid (w.heap.size + 2 = ((w.alloc (.cells #[.slice A0 n c0] 26)).alloc (.cells #[.slice none 0 0] 26)).heap.size) := Lib.hid (by simp)
  generalize ((w.alloc (.cells #[.slice A0 n c0] 26)).alloc (.cells #[.slice none 0 0] 26)) = wa at *
  have hs0 := hsA.out
  refine (HClone.out _ hbA).mono ?_
  rintro e w1 ⟨A, d, rfl, hown, hb1⟩
  have B41 := B4.keep hb1; have B81 := B8.keep hb1
  have hbw1 := hbA.trans (hb1.mono hbA.size)
  have hlow : ∀ q, (Value.slice A n d).ownBlock = some q → wa.heap.size ≤ q ∧ q < w1.heap.size := fun q e => hown.lt q e
  have hbX : Below w1.heap.size w1 (w1.alloc (.cells #[.slice A n d] 26)) := by (repeat (first | (with_reducible exact Below.refl _ _) | (with_reducible assumption) | ((with_reducible refine Below.setCell ?_ ?_ _); rotate_left; focus (first | omega | (simp; done) | (simp; omega))) | ((with_reducible refine Below.alloc ?_ ?_ _); rotate_left; focus (first | omega | (simp; done) | (simp; omega))) | (with_reducible refine Below.drew ?_) | (with_reducible refine below_drewN ?_ _) | (refine Below.trans ?_ (Below.mono (by with_reducible assumption) (by (first | omega | (simp; done) | (simp; omega)))))))
  have B10 : Blk (w1.alloc (.cells #[.slice A n d] 26)) w1.heap.size 26 #[.slice A n d] := Blk.new' rfl
  have hown2 := hown.alloc (.cells #[.slice A n d] 26)
  have B42 := B41.keep hbX; have B82 := B81.keep hbX
  have hbw2 := hbw1.trans (hbX.mono hbw1.size)
  have hz1 := hb1.size
  have hsX : Hid (w1.heap.size + 1 = (w1.alloc (.cells #[.slice A n d] 26)).heap.size) := Lib.hid (by simp)
  clear hown B41 B81 B4 B8 hbw1 hb1
  go_upto_region 2 with fail
  generalize (w1.alloc (.cells #[.slice A n d] 26)) = w2 at *
  have hsx := hsX.out
  obtain ⟨b10, hb10⟩ : ∃ b, b = w1.heap.size := ⟨_, rfl⟩
  obtain ⟨b8, hb8⟩ : ∃ b, b = w.heap.size + 1 := ⟨_, rfl⟩
  obtain ⟨b4, hb4⟩ : ∃ b, b = w.heap.size := ⟨_, rfl⟩
  rw [← hb10] at B10 ⊢
  rw [← hb8] at B82 ⊢
  rw [← hb4] at B42 ⊢
  have hne10 : b8 ≠ b10 := by omega
  have hw8 : w.heap.size ≤ b8 := by omega
  have hl8 : b8 < wa.heap.size := by omega
  have hl10 : b10 < w2.heap.size := by omega
  have hlow2 : ∀ q, (Value.slice A n d).ownBlock = some q → wa.heap.size ≤ q ∧ q < b10 := fun q e => by have := hlow q e; omega
  have hwa : w.heap.size ≤ wa.heap.size := by omega
  clear hb10 hb8 hb4 hsx hsX hlow hs0 hsA hbX hz1 hbA
  have hc4 := B42.cell
  go_wp2_with fail
  refine (HIdx.out _ hbw2).mono ?_
  rintro e w3 ⟨rfl, hb3⟩
  have B83 := B82.keep hb3; have B103 := B10.keep hb3
  have hown3 := own_below hown2 hb3
  have hbw3 := hbw2.trans (hb3.mono hbw2.size)
  have hz3 := hb3.size
  clear hc4 hown2 B42 B82 B10 hbw2 hb3
  have hc8 := B83.cell; have hf8 := B83.frozen; have hc10 := B103.cell
  have HOut : ∀ (wx : World) (xs : List Value) (u : Value), wx.ownsRow wa.heap.size 32 6 (.slice A n d) n xs → World.ownsRow (wx.setCell ⟨b8, 0, none⟩ u) w.heap.size 32 6 (.slice A n d) n xs := fun wx xs u h => own_base (own_setCell h (by simpa using hl8) u) hwa
  have hb8w : ∀ (wx : World) (u : Value), Below w.heap.size w wx → Below w.heap.size w (wx.setCell ⟨b8, 0, none⟩ u) := fun wx u h => h.setCell (by simpa using hw8) u
  rcases HCS.out with ⟨hx, -⟩ | ⟨i, l, hx, hl⟩
  · have HD := Lib.hid (ren_no (now := now) (by_ := by_) (renB_bad (findB_none hx)))
    rw [hx]
    clear hx
    go_wp2_with fail
    refine bodyPost_ret (v := .tuple #[.agg #[.slice A n d], .int .i64 0]) (by simp [results, Tryd.results17, go_sem, hc8, hf8]) rfl ⟨A, d, by rw [HD.out.1], by rw [HD.out.2]; exact HOut _ _ _ hown3, hb8w _ _ hbw3⟩
  have hi := (List.getElem?_eq_some_iff.1 hl).1
  rw [Hn.out] at hi
  have hle := Lib.hid (lease_times (book_lease HOk.out hl))
  have HBy := fun (h : withinB by_ 1 1000000000 = false) => ren_no (ls := ls) (id := id) (now := now) (renB_by h)
  have HYes := Lib.hid (fun h => ren_yes (now := now) (by_ := by_) HOk.out hx hl h)
  have HNo := Lib.hid (fun (h : lendOk l now by_ = false) => ren_no (ls := ls) (id := id) (now := now) (by_ := by_) (by rw [renB_at HOk.out hx hl]; exact h))
  have HL := Lib.hid hl
  rw [hx]
  have hd : decide ((i : Int) < 0) = false := by simp
  have hiI : (i : Int) < (n : Int) := by omega
  clear hx hl
  cases hby : withinB by_ 1 1000000000
  · have HD := Lib.hid (HBy hby)
    have HW := Lib.hid hby
    clear hby HBy HYes HNo
    go_wp2_with fail
    refine (impl_within_b HW.out _).mono ?_
    rintro e w' ⟨rfl, rfl⟩
    go_wp2_with fail
    refine bodyPost_ret (v := .tuple #[.agg #[.slice A n d], .int .i64 0]) (by simp [results, Tryd.results17, go_sem, hc8, hf8]) rfl ⟨A, d, by rw [HD.out.1], by rw [HD.out.2]; exact HOut _ _ _ hown3, hb8w _ _ hbw3⟩
  have HW := Lib.hid hby
  clear hby HBy
  obtain ⟨gg, cap, hv, hg1, hg2⟩ := hown3.form (by omega)
  simp only [Value.slice.injEq, true_and] at hv
  obtain ⟨rfl, rfl⟩ := hv
  have hgw := hlow2 gg rfl
  obtain ⟨r0, r3, r4, r5⟩ := lease_own hown3 Hn.out HL.out
  go_wp2_with fail
  refine (impl_within_b HW.out _).mono ?_
  rintro e w' ⟨rfl, rfl⟩
  go_upto_region 6 with fail
  obtain ⟨m0, m1, m2, m3, m4, m5⟩ := hle.out
  have hw1 : IntKind.i64.wrap (l.Ends - 1) = l.Ends - 1 := IntWalk.i64_in _ (by omega)
  have HW2 := Lib.hid (fun (w' : World) => impl_within now l.Made (l.Ends - 1) w')
  obtain ⟨ok2, hok2⟩ : ∃ b, withinB now l.Made (l.Ends - 1) = b := ⟨_, rfl⟩
  rw [hok2] at HW2
  have HLd : Hid (lendOk l now by_ = ok2) := Lib.hid (by unfold lendOk; rw [HW.out, Bool.true_and]; exact hok2)
  have HOk2 := Lib.hid hok2
  clear hok2
  have t0 := later_cell r3; have t1 := later_cell r4
  go_cut [41] (fun s41 wx => s41 = .bool (!ok2) ∧ Below w3.heap.size w3 wx)
  case first =>
    refine wp_region_later (by kernel_rfl) (by kernel_rfl) ?_
    repeat (first | go_big_quiet_step ((go_at_call 27; with_reducible exact Calls.later_of ((HW2.out _).mono (fun _ _ h => ⟨h.1, h.2 ▸ Below.refl _ _⟩)))) | quiet_step ((go_at_call 27; with_reducible exact Calls.later_of ((HW2.out _).mono (fun _ _ h => ⟨h.1, h.2 ▸ Below.refl _ _⟩)))))
    refine wpQuiet_nil ?_
    intro w9 hb9
    go_wp2_with fail
    go_meet
    exact ⟨rfl, hb9⟩
  case rest =>
  obtain ⟨rfl, hb9⟩ := hcut
  obtain ⟨w9, hw9_⟩ : ∃ w_, w_ = wc := ⟨_, rfl⟩
  subst hw9_
  have B89 := B83.keep hb9; have B109 := B103.keep hb9
  have hown9 := own_below hown3 hb9
  have hbw9 := hbw3.trans (hb9.mono hbw3.size)
  have hz9 := hb9.size
  clear t0 t1 r0 r3 r4 r5 hc8 hf8 hc10 hown3 B83 B103 HW2 hb9 hw1
  have hc8 := B89.cell; have hf8 := B89.frozen; have hc10 := B109.cell
  cases ok2
  · have HD := Lib.hid (HNo.out HLd.out)
    clear HNo HYes
    go_wp2_with fail
    refine bodyPost_ret (v := .tuple #[.agg #[.slice (some ⟨gg, 0, none⟩) n d], .int .i64 0]) (by simp [results, Tryd.results17, go_sem, hc8, hf8]) rfl ⟨_, d, by rw [HD.out.1], by rw [HD.out.2]; exact HOut _ _ _ hown9, hb8w _ _ hbw9⟩
  have HD := Lib.hid (HYes.out HLd.out)
  have hbd := lend_bd (book_lease HOk.out HL.out) HLd.out
  unfold lendE at hbd
  obtain ⟨n0, n1, n2, n3, n4, n5⟩ := hbd
  obtain ⟨r0, r3, r4, r5⟩ := lease_own hown9 Hn.out HL.out
  have hw2 : IntKind.i64.wrap (now + by_) = now + by_ := IntWalk.i64_in _ (by omega)
  have fz := hown9.frozenAt (i * 6 + 4)
  have hgl : gg < w9.heap.size := by omega
  have hstore := (hown9.stored (i * 6 + 4) (.int .i64 (min (now + by_) l.Limit))).1
  rw [lease_put HL.out] at hstore
  have B8z := B89.far (p := ⟨gg, i * 6 + 4, none⟩) (by simp; omega) (.int .i64 (min (now + by_) l.Limit))
  have B10z := B109.far (p := ⟨gg, i * 6 + 4, none⟩) (by simp; omega) (.int .i64 (min (now + by_) l.Limit))
  have hbz := hbw9.setCell (p := ⟨gg, i * 6 + 4, none⟩) (by simp; omega) (.int .i64 (min (now + by_) l.Limit))
  have hcz := (lease_own hstore (by rw [List.length_set]; exact Hn.out) (List.getElem?_set_self (by rw [Hn.out]; exact hi))).2.2.1
  dsimp only [lendL] at hcz
  clear HYes HNo n0 n1 n2 n3 n4 n5 m0 m1 m2 m3 m4 m5
  go_upto_region 9 with fail
  generalize (World.setCell w9 ⟨gg, i * 6 + 4, none⟩ (.int .i64 (min (now + by_) l.Limit))) = wz at *
  clear hc8 hf8 hc10 r0 r3 r4 r5 fz
  have hc8 := B8z.cell; have hf8 := B8z.frozen; have hc10 := B10z.cell; have hl8z := B8z.lt
  go_wp2_with fail
  go_region_law (fail)
  all_goals
    go_wp2_with fail
    have Y8 := (B8z.set_ 0 (.slice (some ⟨gg, 0, none⟩) n d)).drew
    clear hc8 hf8
    have hc8 := Y8.cell; have hf8 := Y8.frozen
    refine bodyPost_ret (v := .tuple #[.agg #[.slice (some ⟨gg, 0, none⟩) n d], .int .i64 (min (now + by_) l.Limit)]) (by simp [results, Tryd.results17, go_sem, hc8, hf8]) rfl ⟨_, d, by rw [HD.out.1]; rfl, by rw [HD.out.2]; exact own_drew (HOut _ _ _ hstore), (hb8w _ _ hbz).drew⟩
set_option maxHeartbeats 3200000 in
theorem impl_RenewLease (A0 : Option Addr) (c0 : Nat) (ls : List Lease) (id now by_ : Int) (w : World) (hr : SlRd LeaseR w w.heap.size (.slice A0 ls.length c0) ls) (hm : szList LeaseR ls ≤ 1048576) (hmx : MaxLenInt w) :
    Calls Tryd.prog 7 #[.agg #[.slice A0 ls.length c0], .int .i64 id, .int .i64 now, .int .i64 by_] w fun e w' => ∃ A d, e = .returned (.tuple #[.agg #[.slice A ls.length d], .int .i64 (renC ls id now by_)]) ∧ w'.ownsRow w.heap.size 32 6 (.slice A ls.length d) ls.length ((renL ls id now by_).flatMap Lease.cells) ∧ Below w.heap.size w w' := by
  have hml : ls.length ≤ 1048576 := Nat.le_trans (Nat.le_add_right _ _) hm
  have HClone := Lib.hid (fun (w' : World) (hb : Below w.heap.size w w') => impl_cloneBook A0 c0 ls w' (hr.keep hb hb.size) hml)
  have HBk := Lib.hid (fun (w' : World) (hb : Below w.heap.size w w') => impl_isBook A0 c0 ls w' (hr.keep hb hb.size) (by omega) (hmx.keep hb))
  have HRen := Lib.hid (fun (hok : bookOk ls = true) (w' : World) (hb : Below w.heap.size w w') => impl_renewLease A0 c0 ls id now by_ w' (hr.keep hb hb.size) hm hok)
  clear hr hm hmx
  obtain ⟨n, hn⟩ : ∃ m, ls.length = m := ⟨_, rfl⟩
  rw [hn] at HClone HBk HRen hml ⊢
  have Hn := Lib.hid hn
  clear hn
  go_enter Tryd.func7, Tryd.ntmps7
  go_wp2_with fail
  have hbA : Below w.heap.size w ((w.alloc (.cells #[.slice A0 n c0] 26)).alloc (.cells #[.slice none 0 0] 26)) := by (repeat (first | (with_reducible exact Below.refl _ _) | (with_reducible assumption) | ((with_reducible refine Below.setCell ?_ ?_ _); rotate_left; focus (first | omega | (simp; done) | (simp; omega))) | ((with_reducible refine Below.alloc ?_ ?_ _); rotate_left; focus (first | omega | (simp; done) | (simp; omega))) | (with_reducible refine Below.drew ?_) | (with_reducible refine below_drewN ?_ _) | (refine Below.trans ?_ (Below.mono (by with_reducible assumption) (by (first | omega | (simp; done) | (simp; omega)))))))
  have B4 : Blk ((w.alloc (.cells #[.slice A0 n c0] 26)).alloc (.cells #[.slice none 0 0] 26)) w.heap.size 26 #[.slice A0 n c0] := (Blk.new' rfl).alloc _
  have B8 : Blk ((w.alloc (.cells #[.slice A0 n c0] 26)).alloc (.cells #[.slice none 0 0] 26)) (w.heap.size + 1) 26 #[.slice none 0 0] := Blk.new' (by simp)
  have hsA : Hid (w.heap.size + 2 = ((w.alloc (.cells #[.slice A0 n c0] 26)).alloc (.cells #[.slice none 0 0] 26)).heap.size) := Lib.hid (by simp)
  generalize ((w.alloc (.cells #[.slice A0 n c0] 26)).alloc (.cells #[.slice none 0 0] 26)) = wa at *
  have hs0 := hsA.out
  obtain ⟨b8, hb8⟩ : ∃ b, b = w.heap.size + 1 := ⟨_, rfl⟩
  obtain ⟨b4, hb4⟩ : ∃ b, b = w.heap.size := ⟨_, rfl⟩
  rw [← hb8] at B8 ⊢
  rw [← hb4] at B4 ⊢
  have hw8 : w.heap.size ≤ b8 := by omega
  have hl8 : b8 < wa.heap.size := by omega
  have hwa : w.heap.size ≤ wa.heap.size := by omega
  clear hb8 hb4 hs0 hsA
  refine (HBk.out _ hbA).mono ?_
  rintro e w1 ⟨rfl, hb1⟩
  replace B4 := B4.keep hb1; replace B8 := B8.keep hb1
  have hbw1 := hbA.trans (hb1.mono hbA.size)
  have hz1 := hb1.size
  clear hb1 hbA
  have hc4 := B4.cell
  have HOut : ∀ (lo : Nat) (wx : World) (A : Option Addr) (d : Nat) (xs : List Value) (u : Value), b8 < lo → w.heap.size ≤ lo → wx.ownsRow lo 32 6 (.slice A n d) n xs → World.ownsRow (wx.setCell ⟨b8, 0, none⟩ u) w.heap.size 32 6 (.slice A n d) n xs := fun lo wx A d xs u h1 h2 h => own_base (own_setCell h (by simpa using h1) u) h2
  have hb8w : ∀ (wx : World) (u : Value), Below w.heap.size w wx → Below w.heap.size w (wx.setCell ⟨b8, 0, none⟩ u) := fun wx u h => h.setCell (by simpa using hw8) u
  cases hok : bookOk ls
  · have HD := Lib.hid (ren_no (id := id) (now := now) (by_ := by_) (renB_bad (findB_bad hok)))
    clear hok HRen
    go_wp2_with fail
    refine (HClone.out _ hbw1).mono ?_
    rintro e w2 ⟨A, d, rfl, hown, hb2⟩
    replace B8 := B8.keep hb2
    have hbw2 := hbw1.trans (hb2.mono hbw1.size)
    clear hc4
    have hc8 := B8.cell; have hf8 := B8.frozen
    go_wp2_with fail
    refine bodyPost_ret (v := .tuple #[.agg #[.slice A n d], .int .i64 0]) (by simp [results, Tryd.results7, go_sem, hc8, hf8]) rfl ⟨A, d, by rw [HD.out.1], by rw [HD.out.2]; exact HOut _ _ _ _ _ _ (by omega) (by omega) hown, hb8w _ _ hbw2⟩
  · have HR := HRen.out hok w1 hbw1
    clear hok HRen HClone
    go_wp2_with fail
    refine HR.mono ?_
    rintro e w2 ⟨A, d, rfl, hown, hb2⟩
    replace B8 := B8.keep hb2
    have hbw2 := hbw1.trans (hb2.mono hbw1.size)
    clear hc4
    have hc8 := B8.cell; have hf8 := B8.frozen
    go_wp2_with fail
    refine bodyPost_ret (v := .tuple #[.agg #[.slice A n d], .int .i64 (renC ls id now by_)]) (by simp [results, Tryd.results7, go_sem, hc8, hf8]) rfl ⟨A, d, rfl, HOut _ _ _ _ _ _ (by omega) (by omega) hown, hb8w _ _ hbw2⟩
end Go.Proofs.YtohfnpohmieknaaDoor

/- A bent lease. -/
import Derived.Test.YtohfnpohmieknaaDoorDrawLease
set_option linter.unusedSimpArgs false
set_option linter.unusedVariables false
set_option maxRecDepth 20000
namespace Go.Proofs.YtohfnpohmieknaaDoor
open Go.RowKit
variable {B : Nat}
theorem bend_end {g b3 b4 : Nat} {w0 w : World} {l : Lease} (h : LS B g b4 b3 w0 w l) (h4 : g ≠ b4) (hB4 : B ≤ b4) (h04 : w0.heap.size ≤ b4) : Blk (World.setCell (World.setCell (World.setCell (World.setCell (World.setCell (World.setCell w ⟨b4, 0, none⟩ (.int .i64 l.Id)) ⟨b4, 1, none⟩ (.int .i64 l.Token)) ⟨b4, 2, none⟩ (.string l.Path)) ⟨b4, 3, none⟩ (.int .i64 l.Made)) ⟨b4, 4, none⟩ (.int .i64 l.Ends)) ⟨b4, 5, none⟩ (.int .i64 l.Limit)) b4 32 #[.int .i64 l.Id, .int .i64 l.Token, .string l.Path, .int .i64 l.Made, .int .i64 l.Ends, .int .i64 l.Limit] ∧ Cur B (World.setCell (World.setCell (World.setCell (World.setCell (World.setCell (World.setCell w ⟨b4, 0, none⟩ (.int .i64 l.Id)) ⟨b4, 1, none⟩ (.int .i64 l.Token)) ⟨b4, 2, none⟩ (.string l.Path)) ⟨b4, 3, none⟩ (.int .i64 l.Made)) ⟨b4, 4, none⟩ (.int .i64 l.Ends)) ⟨b4, 5, none⟩ (.int .i64 l.Limit)) g ∧ Out (fun q => q = g) w0 (World.setCell (World.setCell (World.setCell (World.setCell (World.setCell (World.setCell w ⟨b4, 0, none⟩ (.int .i64 l.Id)) ⟨b4, 1, none⟩ (.int .i64 l.Token)) ⟨b4, 2, none⟩ (.string l.Path)) ⟨b4, 3, none⟩ (.int .i64 l.Made)) ⟨b4, 4, none⟩ (.int .i64 l.Ends)) ⟨b4, 5, none⟩ (.int .i64 l.Limit)) := by
  have hO6 : Out (fun q => q = b4) w (World.setCell (World.setCell (World.setCell (World.setCell (World.setCell (World.setCell w ⟨b4, 0, none⟩ (.int .i64 l.Id)) ⟨b4, 1, none⟩ (.int .i64 l.Token)) ⟨b4, 2, none⟩ (.string l.Path)) ⟨b4, 3, none⟩ (.int .i64 l.Made)) ⟨b4, 4, none⟩ (.int .i64 l.Ends)) ⟨b4, 5, none⟩ (.int .i64 l.Limit)) := (Out.trans (Out.trans (Out.trans (Out.trans (Out.trans (out_set _ _ _ _) (out_set _ _ _ _)) (out_set _ _ _ _)) (out_set _ _ _ _)) (out_set _ _ _ _)) (out_set _ _ _ _))
  exact ⟨(Blk.set_ (Blk.set_ (Blk.set_ (Blk.set_ (Blk.set_ (Blk.set_ h.z 0 _) 1 _) 2 _) 3 _) 4 _) 5 _), h.cur.out hO6 (fun q hq => by subst hq; exact ⟨fun e => h4 e.symm, hB4⟩), h.out.join hO6 (fun q hq => by right; omega)⟩
set_option maxHeartbeats 6400000 in
theorem spec_l09BendLease (g : Nat) (l : Lease) (w : World) (hc : Cur B w g) (hl : LB l) :
    Calls Tryd.prog 29 #[.pointer (some ⟨g, 0, none⟩), .agg #[.int .i64 l.Id, .int .i64 l.Token, .string l.Path, .int .i64 l.Made, .int .i64 l.Ends, .int .i64 l.Limit]] w fun e w' => ∃ l' : Lease, e = .returned (.agg #[.int .i64 l'.Id, .int .i64 l'.Token, .string l'.Path, .int .i64 l'.Made, .int .i64 l'.Ends, .int .i64 l'.Limit]) ∧ l'.Path.size ≤ 200 ∧ Cur B w' g ∧ Out (fun q => q = g) w w' := by
  have hgl := hc.lt
  have hBg := hc.le
  obtain ⟨p0, ⟨p1, p2⟩, ⟨p3, p4⟩, ⟨p5, p6⟩⟩ := hl
  have hbA : Below w.heap.size w ((w.alloc (.cells #[.int .i64 l.Id, .int .i64 l.Token, .string l.Path, .int .i64 l.Made, .int .i64 l.Ends, .int .i64 l.Limit] 32)).alloc (.cells #[.int .i64 0, .int .i64 0, .string ⟨#[]⟩, .int .i64 0, .int .i64 0, .int .i64 0] 32)) := by (repeat (first | (with_reducible exact Below.refl _ _) | (with_reducible assumption) | ((with_reducible refine Below.setCell ?_ ?_ _); rotate_left; focus (first | omega | (simp; done) | (simp; omega))) | ((with_reducible refine Below.alloc ?_ ?_ _); rotate_left; focus (first | omega | (simp; done) | (simp; omega))) | (with_reducible refine Below.drew ?_) | (with_reducible refine below_drewN ?_ _) | (refine Below.trans ?_ (Below.mono (by with_reducible assumption) (by (first | omega | (simp; done) | (simp; omega)))))))
  have hR0 : LS B g (w.heap.size + 1) w.heap.size w ((w.alloc (.cells #[.int .i64 l.Id, .int .i64 l.Token, .string l.Path, .int .i64 l.Made, .int .i64 l.Ends, .int .i64 l.Limit] 32)).alloc (.cells #[.int .i64 0, .int .i64 0, .string ⟨#[]⟩, .int .i64 0, .int .i64 0, .int .i64 0] 32)) l := ⟨Blk.new' (by simp), (Blk.new' rfl).alloc _, hc.below hbA, Out.of_below hbA⟩
  go_enter Tryd.func29, Tryd.ntmps29
  go_wp2_with fail
  generalize ((w.alloc (.cells #[.int .i64 l.Id, .int .i64 l.Token, .string l.Path, .int .i64 l.Made, .int .i64 l.Ends, .int .i64 l.Limit] 32)).alloc (.cells #[.int .i64 0, .int .i64 0, .string ⟨#[]⟩, .int .i64 0, .int .i64 0, .int .i64 0] 32)) = wa at *
  obtain ⟨b4, hb4e⟩ : ∃ b, b = w.heap.size + 1 := ⟨_, rfl⟩
  obtain ⟨b3, hb3e⟩ : ∃ b, b = w.heap.size := ⟨_, rfl⟩
  rw [← hb4e, ← hb3e] at hR0
  rw [← hb4e, ← hb3e]
  have h4 : g ≠ b4 := by omega
  have h5 : g ≠ b3 := by omega
  have h45 : b4 ≠ b3 := by omega
  have hB5 : B ≤ b3 := by omega
  have h05 : w.heap.size ≤ b3 := by omega
  have hB4 : B ≤ b4 := by omega
  have h04 : w.heap.size ≤ b4 := by omega
  clear hb4e hb3e hbA hc hgl
  refine (spec_l01Below g 6 _ hR0.cur (by omega)).mono ?_
  rintro e w1 ⟨v, rfl, hv0, hv1, -, hd1⟩
  have hv := hv1 (by omega)
  have hR := hR0.move hd1.2 hd1.1 h4 h5
  clear hR0 hd1 hv1
  have hcB := hR.b.cell
  by_cases e0 : v = 0
  · subst e0
    go_wp2_with fail
    refine (spec_pickLit g w1 [0, 1000000000, 1000000001, 1] hR.cur (by simp) (by simp)).mono ?_
    rintro e w2 ⟨x, rfl, -, hcp, hOp, -⟩
    have hR2 := hR.move hOp hcp h4 h5
    clear hcB
    have hcB := hR2.b.cell; have hfB := hR2.b.frozen; have hcZ := hR2.z.cell; have hfZ := hR2.z.frozen
    have hR3 : LS B g b4 b3 w (w2.setCell ⟨b3, 0, none⟩ (.int .i64 x)) (⟨x, l.Token, l.Path, l.Made, l.Ends, l.Limit⟩ : Lease) := hR2.store h5 h45 hB5 h05 rfl
    have hcB3 := hR3.b.cell; have hcZ3 := hR3.z.cell; have hfZ3 := hR3.z.frozen; have hlB := hR2.b.lt; have hlZ := hR2.z.lt
    go_wp2_with fail
    obtain ⟨Y4, hcz, hOz⟩ := bend_end hR3 h4 hB4 h04
    dsimp only at Y4 hcz hOz
    clear hcB hfB hcZ hfZ hcB3 hcZ3 hfZ3 hlB hlZ
    generalize (World.setCell (World.setCell (World.setCell (World.setCell (World.setCell (World.setCell (World.setCell w2 ⟨b3, 0, none⟩ (.int .i64 x)) ⟨b4, 0, none⟩ (.int .i64 x)) ⟨b4, 1, none⟩ (.int .i64 l.Token)) ⟨b4, 2, none⟩ (.string l.Path)) ⟨b4, 3, none⟩ (.int .i64 l.Made)) ⟨b4, 4, none⟩ (.int .i64 l.Ends)) ⟨b4, 5, none⟩ (.int .i64 l.Limit)) = wy at *
    have hcZ := Y4.cell; have hfZ := Y4.frozen
    refine bodyPost_ret (v := .agg #[.int .i64 x, .int .i64 l.Token, .string l.Path, .int .i64 l.Made, .int .i64 l.Ends, .int .i64 l.Limit]) (by simp [results, Tryd.results29, go_sem, hcZ, hfZ]) rfl ⟨(⟨x, l.Token, l.Path, l.Made, l.Ends, l.Limit⟩ : Lease), rfl, by dsimp only; omega, hcz, hOz⟩
  by_cases e1 : v = 1
  · subst e1
    go_wp2_with fail
    refine (spec_pickLit g w1 [-1, 1000000001, 0] hR.cur (by simp) (by simp)).mono ?_
    rintro e w2 ⟨x, rfl, -, hcp, hOp, -⟩
    have hR2 := hR.move hOp hcp h4 h5
    clear hcB
    have hcB := hR2.b.cell; have hfB := hR2.b.frozen; have hcZ := hR2.z.cell; have hfZ := hR2.z.frozen
    have hR3 : LS B g b4 b3 w (w2.setCell ⟨b3, 1, none⟩ (.int .i64 x)) (⟨l.Id, x, l.Path, l.Made, l.Ends, l.Limit⟩ : Lease) := hR2.store h5 h45 hB5 h05 rfl
    have hcB3 := hR3.b.cell; have hcZ3 := hR3.z.cell; have hfZ3 := hR3.z.frozen; have hlB := hR2.b.lt; have hlZ := hR2.z.lt
    go_wp2_with fail
    obtain ⟨Y4, hcz, hOz⟩ := bend_end hR3 h4 hB4 h04
    dsimp only at Y4 hcz hOz
    clear hcB hfB hcZ hfZ hcB3 hcZ3 hfZ3 hlB hlZ
    generalize (World.setCell (World.setCell (World.setCell (World.setCell (World.setCell (World.setCell (World.setCell w2 ⟨b3, 1, none⟩ (.int .i64 x)) ⟨b4, 0, none⟩ (.int .i64 l.Id)) ⟨b4, 1, none⟩ (.int .i64 x)) ⟨b4, 2, none⟩ (.string l.Path)) ⟨b4, 3, none⟩ (.int .i64 l.Made)) ⟨b4, 4, none⟩ (.int .i64 l.Ends)) ⟨b4, 5, none⟩ (.int .i64 l.Limit)) = wy at *
    have hcZ := Y4.cell; have hfZ := Y4.frozen
    refine bodyPost_ret (v := .agg #[.int .i64 l.Id, .int .i64 x, .string l.Path, .int .i64 l.Made, .int .i64 l.Ends, .int .i64 l.Limit]) (by simp [results, Tryd.results29, go_sem, hcZ, hfZ]) rfl ⟨(⟨l.Id, x, l.Path, l.Made, l.Ends, l.Limit⟩ : Lease), rfl, by dsimp only; omega, hcz, hOz⟩
  by_cases e2 : v = 2
  · subst e2
    go_wp2_with fail
    refine (spec_l01DrawPath g w1 hR.cur).mono ?_
    rintro e w2 ⟨x, rfl, hxs, hcp, hOp⟩
    have hR2 := hR.move hOp hcp h4 h5
    clear hcB
    have hcB := hR2.b.cell; have hfB := hR2.b.frozen; have hcZ := hR2.z.cell; have hfZ := hR2.z.frozen
    have hR3 : LS B g b4 b3 w (w2.setCell ⟨b3, 2, none⟩ (.string x)) (⟨l.Id, l.Token, x, l.Made, l.Ends, l.Limit⟩ : Lease) := hR2.store h5 h45 hB5 h05 rfl
    have hcB3 := hR3.b.cell; have hcZ3 := hR3.z.cell; have hfZ3 := hR3.z.frozen; have hlB := hR2.b.lt; have hlZ := hR2.z.lt
    go_wp2_with fail
    obtain ⟨Y4, hcz, hOz⟩ := bend_end hR3 h4 hB4 h04
    dsimp only at Y4 hcz hOz
    clear hcB hfB hcZ hfZ hcB3 hcZ3 hfZ3 hlB hlZ
    generalize (World.setCell (World.setCell (World.setCell (World.setCell (World.setCell (World.setCell (World.setCell w2 ⟨b3, 2, none⟩ (.string x)) ⟨b4, 0, none⟩ (.int .i64 l.Id)) ⟨b4, 1, none⟩ (.int .i64 l.Token)) ⟨b4, 2, none⟩ (.string x)) ⟨b4, 3, none⟩ (.int .i64 l.Made)) ⟨b4, 4, none⟩ (.int .i64 l.Ends)) ⟨b4, 5, none⟩ (.int .i64 l.Limit)) = wy at *
    have hcZ := Y4.cell; have hfZ := Y4.frozen
    refine bodyPost_ret (v := .agg #[.int .i64 l.Id, .int .i64 l.Token, .string x, .int .i64 l.Made, .int .i64 l.Ends, .int .i64 l.Limit]) (by simp [results, Tryd.results29, go_sem, hcZ, hfZ]) rfl ⟨(⟨l.Id, l.Token, x, l.Made, l.Ends, l.Limit⟩ : Lease), rfl, by dsimp only; omega, hcz, hOz⟩
  by_cases e3 : v = 3
  · subst e3
    go_wp2_with fail
    refine (spec_pickLit g w1 [-1, l.Ends, 1000000000] hR.cur (by simp) (by simp)).mono ?_
    rintro e w2 ⟨x, rfl, -, hcp, hOp, -⟩
    have hR2 := hR.move hOp hcp h4 h5
    clear hcB
    have hcB := hR2.b.cell; have hfB := hR2.b.frozen; have hcZ := hR2.z.cell; have hfZ := hR2.z.frozen
    have hR3 : LS B g b4 b3 w (w2.setCell ⟨b3, 3, none⟩ (.int .i64 x)) (⟨l.Id, l.Token, l.Path, x, l.Ends, l.Limit⟩ : Lease) := hR2.store h5 h45 hB5 h05 rfl
    have hcB3 := hR3.b.cell; have hcZ3 := hR3.z.cell; have hfZ3 := hR3.z.frozen; have hlB := hR2.b.lt; have hlZ := hR2.z.lt
    go_wp2_with fail
    obtain ⟨Y4, hcz, hOz⟩ := bend_end hR3 h4 hB4 h04
    dsimp only at Y4 hcz hOz
    clear hcB hfB hcZ hfZ hcB3 hcZ3 hfZ3 hlB hlZ
    generalize (World.setCell (World.setCell (World.setCell (World.setCell (World.setCell (World.setCell (World.setCell w2 ⟨b3, 3, none⟩ (.int .i64 x)) ⟨b4, 0, none⟩ (.int .i64 l.Id)) ⟨b4, 1, none⟩ (.int .i64 l.Token)) ⟨b4, 2, none⟩ (.string l.Path)) ⟨b4, 3, none⟩ (.int .i64 x)) ⟨b4, 4, none⟩ (.int .i64 l.Ends)) ⟨b4, 5, none⟩ (.int .i64 l.Limit)) = wy at *
    have hcZ := Y4.cell; have hfZ := Y4.frozen
    refine bodyPost_ret (v := .agg #[.int .i64 l.Id, .int .i64 l.Token, .string l.Path, .int .i64 x, .int .i64 l.Ends, .int .i64 l.Limit]) (by simp [results, Tryd.results29, go_sem, hcZ, hfZ]) rfl ⟨(⟨l.Id, l.Token, l.Path, x, l.Ends, l.Limit⟩ : Lease), rfl, by dsimp only; omega, hcz, hOz⟩
  by_cases e4 : v = 4
  · subst e4
    have hwl : IntKind.i64.wrap (l.Limit + 1) = l.Limit + 1 := IntWalk.i64_in _ (by omega)
    go_wp2_with fail
    refine (spec_pickLit g w1 [l.Limit, l.Limit + 1, l.Made] hR.cur (by simp) (by simp)).mono ?_
    rintro e w2 ⟨x, rfl, -, hcp, hOp, -⟩
    have hR2 := hR.move hOp hcp h4 h5
    clear hcB
    have hcB := hR2.b.cell; have hfB := hR2.b.frozen; have hcZ := hR2.z.cell; have hfZ := hR2.z.frozen
    have hR3 : LS B g b4 b3 w (w2.setCell ⟨b3, 4, none⟩ (.int .i64 x)) (⟨l.Id, l.Token, l.Path, l.Made, x, l.Limit⟩ : Lease) := hR2.store h5 h45 hB5 h05 rfl
    have hcB3 := hR3.b.cell; have hcZ3 := hR3.z.cell; have hfZ3 := hR3.z.frozen; have hlB := hR2.b.lt; have hlZ := hR2.z.lt
    go_wp2_with fail
    obtain ⟨Y4, hcz, hOz⟩ := bend_end hR3 h4 hB4 h04
    dsimp only at Y4 hcz hOz
    clear hcB hfB hcZ hfZ hcB3 hcZ3 hfZ3 hlB hlZ
    generalize (World.setCell (World.setCell (World.setCell (World.setCell (World.setCell (World.setCell (World.setCell w2 ⟨b3, 4, none⟩ (.int .i64 x)) ⟨b4, 0, none⟩ (.int .i64 l.Id)) ⟨b4, 1, none⟩ (.int .i64 l.Token)) ⟨b4, 2, none⟩ (.string l.Path)) ⟨b4, 3, none⟩ (.int .i64 l.Made)) ⟨b4, 4, none⟩ (.int .i64 x)) ⟨b4, 5, none⟩ (.int .i64 l.Limit)) = wy at *
    have hcZ := Y4.cell; have hfZ := Y4.frozen
    refine bodyPost_ret (v := .agg #[.int .i64 l.Id, .int .i64 l.Token, .string l.Path, .int .i64 l.Made, .int .i64 x, .int .i64 l.Limit]) (by simp [results, Tryd.results29, go_sem, hcZ, hfZ]) rfl ⟨(⟨l.Id, l.Token, l.Path, l.Made, x, l.Limit⟩ : Lease), rfl, by dsimp only; omega, hcz, hOz⟩
  obtain e5 : v = 5 := by omega
  subst e5
  go_wp2_with fail
  refine (spec_pickLit g w1 [1000000000, 1000000001, 0] hR.cur (by simp) (by simp)).mono ?_
  rintro e w2 ⟨x, rfl, -, hcp, hOp, -⟩
  have hR2 := hR.move hOp hcp h4 h5
  clear hcB
  have hcB := hR2.b.cell; have hfB := hR2.b.frozen; have hcZ := hR2.z.cell; have hfZ := hR2.z.frozen
  have hR3 : LS B g b4 b3 w (w2.setCell ⟨b3, 5, none⟩ (.int .i64 x)) (⟨l.Id, l.Token, l.Path, l.Made, l.Ends, x⟩ : Lease) := hR2.store h5 h45 hB5 h05 rfl
  have hcB3 := hR3.b.cell; have hcZ3 := hR3.z.cell; have hfZ3 := hR3.z.frozen; have hlB := hR2.b.lt; have hlZ := hR2.z.lt
  go_wp2_with fail
  obtain ⟨Y4, hcz, hOz⟩ := bend_end hR3 h4 hB4 h04
  dsimp only at Y4 hcz hOz
  clear hcB hfB hcZ hfZ hcB3 hcZ3 hfZ3 hlB hlZ
  generalize (World.setCell (World.setCell (World.setCell (World.setCell (World.setCell (World.setCell (World.setCell w2 ⟨b3, 5, none⟩ (.int .i64 x)) ⟨b4, 0, none⟩ (.int .i64 l.Id)) ⟨b4, 1, none⟩ (.int .i64 l.Token)) ⟨b4, 2, none⟩ (.string l.Path)) ⟨b4, 3, none⟩ (.int .i64 l.Made)) ⟨b4, 4, none⟩ (.int .i64 l.Ends)) ⟨b4, 5, none⟩ (.int .i64 x)) = wy at *
  have hcZ := Y4.cell; have hfZ := Y4.frozen
  refine bodyPost_ret (v := .agg #[.int .i64 l.Id, .int .i64 l.Token, .string l.Path, .int .i64 l.Made, .int .i64 l.Ends, .int .i64 x]) (by simp [results, Tryd.results29, go_sem, hcZ, hfZ]) rfl ⟨(⟨l.Id, l.Token, l.Path, l.Made, l.Ends, x⟩ : Lease), rfl, by dsimp only; omega, hcz, hOz⟩
end Go.Proofs.YtohfnpohmieknaaDoor

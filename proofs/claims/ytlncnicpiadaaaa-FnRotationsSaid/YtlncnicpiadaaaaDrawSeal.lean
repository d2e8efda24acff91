/- What DrawRingSeal of the reference draws. -/
import Derived.Test.YtlncnicpiadaaaaDrawRing
set_option linter.unusedSimpArgs false
set_option linter.unusedVariables false
set_option maxRecDepth 20000
namespace Go.Proofs.Ytlncnicpiadaaaa
open Go.RowKit
set_option maxHeartbeats 1600000 in
theorem spec_DrawRingSeal (A0 : Option Addr) (c0 : Nat) (code : List UInt8) (w : World) (hr : Reads w w.heap.size A0 (code.map byteV)) (hm : code.length ≤ 1048576) :
    Calls Try.prog 23 #[.slice A0 code.length c0] w fun e w' => ∃ (v : Value) (r : KeyRing) (x : Int) (A : Option Addr) (c : Nat) (xs : List UInt8), e = .returned (.tuple #[.agg #[.int .i64 r.First, v], .int .i64 x, .slice A xs.length c]) ∧ r.Secrets.length ≤ 12 ∧ xs.length ≤ 2001 ∧ SlRd intR w' w'.heap.size v r.Secrets ∧ Reads w' w'.heap.size A (xs.map byteV) ∧ Below w.heap.size w w' := by
  have HN := Lib.hid (fun (w' : World) (hb : Below w.heap.size w w') => spec_l01New A0 c0 code w' (hr.keep hb hb.size) hm)
  have HP := Lib.hid (fun (g : Nat) (w' : World) (h : Cur w' g) => spec_l04DrawPlain g A0 code.length c0 w' h hm)
  generalize code.length = n at *
  clear hr
  go_enter Try.func23, Try.ntmps23
  go_wp2_with fail
  have hb0 : Below w.heap.size w (w.alloc (.cells #[.int .i64 0, .slice none 0 0] 34)) := by (repeat (first | (with_reducible exact Below.refl _ _) | (with_reducible assumption) | ((with_reducible refine Below.setCell ?_ ?_ _); rotate_left; focus (first | omega | (simp; done) | (simp; omega))) | ((with_reducible refine Below.alloc ?_ ?_ _); rotate_left; focus (first | omega | (simp; done) | (simp; omega))) | (with_reducible refine Below.drew ?_) | (with_reducible refine below_drewN ?_ _) | (refine Below.trans ?_ (Below.mono (by with_reducible assumption) (by (first | omega | (simp; done) | (simp; omega)))))))
  have B0 : Blk (w.alloc (.cells #[.int .i64 0, .slice none 0 0] 34)) w.heap.size 34 #[.int .i64 0, .slice none 0 0] := Blk.new' rfl
  have hs0 : w.heap.size + 1 = (w.alloc (.cells #[.int .i64 0, .slice none 0 0] 34)).heap.size := by simp
  generalize (w.alloc (.cells #[.int .i64 0, .slice none 0 0] 34)) = wa at *
  refine (HN.out _ hb0).mono ?_
  rintro e w1 ⟨rfl, hc1, hb1⟩
  obtain ⟨g, hg⟩ : ∃ g, g = wa.heap.size := ⟨_, rfl⟩
  rw [← hg] at hc1 ⊢
  have hgl := hc1.lt
  have hgw : w.heap.size < g := by omega
  replace B0 := B0.keep hb1
  replace hb1 := hb0.trans (hb1.mono (by omega))
  clear hg hs0
  go_wp2_with fail
  refine (spec_l04DrawRing g _ hc1).mono ?_
  rintro e w2 ⟨v, r, rfl, hl, hso, hc2, hO2⟩
  obtain ⟨Av, cv, rfl⟩ := hso.form
  have hs2 := hO2.size
  go_wp2_with fail
  refine (spec_l04DrawKey g _ hc2).mono ?_
  rintro e w3 ⟨x, rfl, hc3, hO3⟩
  have hs3 := hO3.size
  go_wp2_with fail
  refine (HP.out g _ hc3).mono ?_
  rintro e w4 ⟨A, c, xs, rfl, hxl, hop, hc4, hO4⟩
  have hs4 := hO4.size
  have hO24 := (hO2.trans hO3).trans hO4
  have hso4 := hso.out (hO3.trans hO4) (fun q hq hq2 => by have := hq.1; omega)
  have B4 := B0.out hO24 (by omega)
  have hb4 := hb1.trans (hO24.below (B := w.heap.size) (by omega) (fun q hq => by omega))
  have hc4' := B4.cell
  have hf4' := B4.frozen
  have HXL := Lib.hid hxl
  clear hxl
  go_wp2_with fail
  refine bodyPost_ret (v := .tuple #[.agg #[.int .i64 r.First, .slice Av r.Secrets.length cv], .int .i64 x, .slice A xs.length c]) (by simp [results, Try.results23, go_sem, hc4', hf4']) rfl ⟨.slice Av r.Secrets.length cv, r, x, A, c, xs, rfl, hl, HXL.out, ?_, ?_, by (repeat (first | (with_reducible exact Below.refl _ _) | (with_reducible assumption) | ((with_reducible refine Below.setCell ?_ ?_ _); rotate_left; focus (first | omega | (simp; done) | (simp; omega))) | ((with_reducible refine Below.alloc ?_ ?_ _); rotate_left; focus (first | omega | (simp; done) | (simp; omega))) | (with_reducible refine Below.drew ?_) | (with_reducible refine below_drewN ?_ _) | (refine Below.trans ?_ (Below.mono (by with_reducible assumption) (by (first | omega | (simp; done) | (simp; omega)))))))⟩
  · exact (hso4.out ((out_set _ _ _ _).trans (out_set _ _ _ _)) (fun q hq hq2 => by have := hq.1; omega)).rd (fun q hq => by have := hq.2; simp; omega)
  · have := Reads.of_own (own_setCell (a := ⟨w.heap.size, 1, none⟩) (own_setCell (a := ⟨w.heap.size, 0, none⟩) hop (by simp; omega) (.int .i64 r.First)) (by simp; omega) (.slice Av r.Secrets.length cv))
    simpa using this
end Go.Proofs.Ytlncnicpiadaaaa

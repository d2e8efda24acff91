/- AddLease, the program. -/
import Derived.Test.YtbfnkfaagmjfnaaDoorAddLib
import Derived.Deep.DeepCutAuto
set_option linter.unusedSimpArgs false
set_option linter.unusedVariables false
set_option maxRecDepth 20000
namespace Go.Proofs.YtbfnkfaagmjfnaaDoor
open Go.RowKit
theorem own_setCell_o {w : World} {base : Nat} {e : TypeId} {size n : Nat} {v : Value} {xs : List Value} (h : w.ownsRow base e size v n xs) {a : Addr} (ha : ∀ g, v.ownBlock = some g → g ≠ a.block) (u : Value) : (w.setCell a u).ownsRow base e size v n xs := by
  refine ⟨h.1, ?_⟩
  rcases h.2 with hn | ⟨g, cap, cur, rfl, h0, hg, rest⟩
  · exact .inl hn
  · exact .inr ⟨g, cap, cur, rfl, h0, by rw [Below.heap_setCell w a u g (ha g rfl)]; exact hg, rest⟩
set_option maxHeartbeats 6400000 in
theorem impl_addLease (A0 : Option Addr) (c0 : Nat) (ls : List Lease) (l : Lease) (w : World) (hr : SlRd LeaseR w w.heap.size (.slice A0 ls.length c0) ls) (hml : ls.length ≤ 1048576) (hs : l.Path.size ≤ 9223372036854775807) (hok : bookOk ls = true) (hmx : MaxLenInt w) :
    Calls Tryd.prog 48 #[.agg #[.slice A0 ls.length c0], .agg #[.int .i64 l.Id, .int .i64 l.Token, .string l.Path, .int .i64 l.Made, .int .i64 l.Ends, .int .i64 l.Limit]] w fun e w' => ∃ A d, e = .returned (.tuple #[.agg #[.slice A (addL ls l).length d], .bool (addOk ls l)]) ∧ w'.ownsRow w.heap.size 26 6 (.slice A (addL ls l).length d) (addL ls l).length ((addL ls l).flatMap Lease.cells) ∧ Below w.heap.size w w' := by
  have HM := Lib.hid (fun (w' : World) (hb : Below w.heap.size w w') => hmx.keep hb)
  have hps : ∀ x ∈ ls ++ [l], x.Path.size ≤ 9223372036854775807 := fun x hx => by
    rcases List.mem_append.1 hx with hx | hx
    · exact (reads_LeaseS hr).2 x hx
    · rw [List.mem_singleton.1 hx]; exact hs
  have HPS := Lib.hid hps
  have HCl := Lib.hid (fun (w' : World) (h : SlRd LeaseR w' w'.heap.size (.slice A0 ls.length c0) ls) => impl_cloneBook A0 c0 ls w' h hml)
  have HB2 := Lib.hid (fun (w' : World) (A : Option Addr) (c : Nat) (h : SlRd LeaseR w' w'.heap.size (.slice A (ls ++ [l]).length c) (ls ++ [l])) (hx : MaxLenInt w') => impl_isBook A c (ls ++ [l]) w' h (by rw [List.length_append, List.length_singleton]; omega) hx)
  have HRs := Lib.hid (fun (w' : World) (hb : Below w.heap.size w w') (hz : w.heap.size ≤ w'.heap.size) => hr.keep hb hz)
  obtain ⟨i0, hi0, hz0, hz1', hz2'⟩ := info_parts info_Lease
  have HLen : Hid ((ls ++ [l]).length = ls.length + 1) := Lib.hid (by rw [List.length_append, List.length_singleton])
  rw [HLen.out] at HB2
  generalize hn : ls.length = n at *
  have Hn := Lib.hid hn
  clear hn hps hr hmx
  go_enter Tryd.func48, Tryd.ntmps48
  go_wp2_with fail
  refine (HCl.out _ (HRs.out _ (by (repeat (first | (with_reducible exact Below.refl _ _) | (with_reducible assumption) | ((with_reducible refine Below.setCell ?_ ?_ _); rotate_left; focus (first | omega | (simp; done) | (simp; omega))) | ((with_reducible refine Below.alloc ?_ ?_ _); rotate_left; focus (first | omega | (simp; done) | (simp; omega))) | (with_reducible refine Below.drew ?_) | (with_reducible refine below_drewN ?_ _) | (refine Below.trans ?_ (Below.mono (by with_reducible assumption) (by (first | omega | (simp; done) | (simp; omega)))))))) (by first | omega | (simp; done) | (simp; omega)))).mono ?_
  rintro e w1 ⟨D, d, rfl, ho1, hb1⟩
  have hz1 := hb1.size; try simp at hz1
  have BK0 : Blk w1 w.heap.size 36 #[.slice A0 n c0] := by (repeat (first | (with_reducible assumption) | ((with_reducible refine Blk.new' ?_); focus (simp; done)) | (with_reducible refine Blk.alloc ?_ _) | (with_reducible refine Blk.drew ?_) | (with_reducible refine Blk.drewN ?_ _) | ((with_reducible refine Blk.far ?_ ?_ _); rotate_left; focus (first | omega | (simp; done) | (simp; omega))) | (refine Blk.keep ?_ (by with_reducible assumption)) | (refine Blk.below ?_ (by with_reducible assumption) (by (first | omega | (simp; done) | (simp; omega))))))
  have BK1 : Blk w1 (w.heap.size + 1) 26 #[.int .i64 l.Id, .int .i64 l.Token, .string l.Path, .int .i64 l.Made, .int .i64 l.Ends, .int .i64 l.Limit] := by (repeat (first | (with_reducible assumption) | ((with_reducible refine Blk.new' ?_); focus (simp; done)) | (with_reducible refine Blk.alloc ?_ _) | (with_reducible refine Blk.drew ?_) | (with_reducible refine Blk.drewN ?_ _) | ((with_reducible refine Blk.far ?_ ?_ _); rotate_left; focus (first | omega | (simp; done) | (simp; omega))) | (refine Blk.keep ?_ (by with_reducible assumption)) | (refine Blk.below ?_ (by with_reducible assumption) (by (first | omega | (simp; done) | (simp; omega))))))
  have BR : Blk w1 (w.heap.size + 2) 36 #[.slice none 0 0] := by (repeat (first | (with_reducible assumption) | ((with_reducible refine Blk.new' ?_); focus (simp; done)) | (with_reducible refine Blk.alloc ?_ _) | (with_reducible refine Blk.drew ?_) | (with_reducible refine Blk.drewN ?_ _) | ((with_reducible refine Blk.far ?_ ?_ _); rotate_left; focus (first | omega | (simp; done) | (simp; omega))) | (refine Blk.keep ?_ (by with_reducible assumption)) | (refine Blk.below ?_ (by with_reducible assumption) (by (first | omega | (simp; done) | (simp; omega))))))
  have hc0 := BK0.cell; have hf0 := BK0.frozen; have hl0 := BK0.lt; have hc1 := BK1.cell; have hf1 := BK1.frozen; have hl1 := BK1.lt; have hcR := BR.cell; have hfR := BR.frozen; have hlR := BR.lt
  have B6 : Blk (w1.alloc (.cells #[.slice D n d] 36)) w1.heap.size 36 #[.slice D n d] := Blk.new _ _ _
  have hc6 := B6.cell; have hf6 := B6.frozen
  have BK0' : Blk (w1.alloc (.cells #[.slice D n d] 36)) w.heap.size 36 #[.slice A0 n c0] := by (repeat (first | (with_reducible assumption) | ((with_reducible refine Blk.new' ?_); focus (simp; done)) | (with_reducible refine Blk.alloc ?_ _) | (with_reducible refine Blk.drew ?_) | (with_reducible refine Blk.drewN ?_ _) | ((with_reducible refine Blk.far ?_ ?_ _); rotate_left; focus (first | omega | (simp; done) | (simp; omega))) | (refine Blk.keep ?_ (by with_reducible assumption)) | (refine Blk.below ?_ (by with_reducible assumption) (by (first | omega | (simp; done) | (simp; omega))))))
  have BK1' : Blk (w1.alloc (.cells #[.slice D n d] 36)) (w.heap.size + 1) 26 #[.int .i64 l.Id, .int .i64 l.Token, .string l.Path, .int .i64 l.Made, .int .i64 l.Ends, .int .i64 l.Limit] := by (repeat (first | (with_reducible assumption) | ((with_reducible refine Blk.new' ?_); focus (simp; done)) | (with_reducible refine Blk.alloc ?_ _) | (with_reducible refine Blk.drew ?_) | (with_reducible refine Blk.drewN ?_ _) | ((with_reducible refine Blk.far ?_ ?_ _); rotate_left; focus (first | omega | (simp; done) | (simp; omega))) | (refine Blk.keep ?_ (by with_reducible assumption)) | (refine Blk.below ?_ (by with_reducible assumption) (by (first | omega | (simp; done) | (simp; omega))))))
  have BR' : Blk (w1.alloc (.cells #[.slice D n d] 36)) (w.heap.size + 2) 36 #[.slice none 0 0] := by (repeat (first | (with_reducible assumption) | ((with_reducible refine Blk.new' ?_); focus (simp; done)) | (with_reducible refine Blk.alloc ?_ _) | (with_reducible refine Blk.drew ?_) | (with_reducible refine Blk.drewN ?_ _) | ((with_reducible refine Blk.far ?_ ?_ _); rotate_left; focus (first | omega | (simp; done) | (simp; omega))) | (refine Blk.keep ?_ (by with_reducible assumption)) | (refine Blk.below ?_ (by with_reducible assumption) (by (first | omega | (simp; done) | (simp; omega))))))
  have hcK := BK1'.cell
  have ho3 := own_base (base' := w.heap.size + 3) ho1 (by first | omega | (simp; done) | (simp; omega))
  have ho6 := ho3.alloc (.cells #[.slice D n d] 36)
  have hbC : Below w.heap.size w (w1.alloc (.cells #[.slice D n d] 36)) := by (repeat (first | (with_reducible exact Below.refl _ _) | (with_reducible assumption) | ((with_reducible refine Below.setCell ?_ ?_ _); rotate_left; focus (first | omega | (simp; done) | (simp; omega))) | ((with_reducible refine Below.alloc ?_ ?_ _); rotate_left; focus (first | omega | (simp; done) | (simp; omega))) | (with_reducible refine Below.drew ?_) | (with_reducible refine below_drewN ?_ _) | (refine Below.trans ?_ (Below.mono (by with_reducible assumption) (by (first | omega | (simp; done) | (simp; omega)))))))
  have hlt6 : ∀ q, (Value.slice D n d).ownBlock = some q → w.heap.size + 3 ≤ q ∧ q < w1.heap.size := fun q e => by have := ho3.lt q e; omega
  have hne : ∀ q, q < w.heap.size + 3 ∨ w1.heap.size ≤ q → some q ≠ (Value.slice D n d).ownBlock := fun q hq e => by have := hlt6 _ e.symm; omega
  have hzC : w1.heap.size + 1 ≤ (w1.alloc (.cells #[.slice D n d] 36)).heap.size := by simp
  go_upto_region 2 with fail
  generalize (w1.alloc (.cells #[.slice D n d] 36)) = W6 at *
  go_wp2_with (first | (at_builtin; go_loud (refine wpList_append_own_at _ rfl _ _ 34 rfl (w.heap.size + 3) 26 i0 _ 6 56 Tryd.underlying34 hi0 hz0 hz1' hz2' rfl (by decide) _ _ _ rfl (ho6.alloc _) ⟨(W6).heap.size, 0, none⟩ 1 1 [.int .i64 l.Id, .int .i64 l.Token, .string l.Path, .int .i64 l.Made, .int .i64 l.Ends, .int .i64 l.Limit] rfl rfl ?c1 ?c2 ?c3 ?c4 ?c5 ?_; (case c1 => exact (World.news_of_block (cs := #[.int .i64 l.Id, .int .i64 l.Token, .string l.Path, .int .i64 l.Made, .int .i64 l.Ends, .int .i64 l.Limit]) (t := 26) (fr := (0, 0)) (heap_alloc_new (W6) _))); (case c2 => simp [Value.oneCell']); (case c3 => (simp only [maxLen]; omega)); (case c4 => omega); (case c5 => (simp; omega)); intro v' wA hown1 hgrow hnil hat; obtain ⟨gg, cap, rfl, hg1, hg2⟩ := hown1.form (by omega); have BOA := ((B6.alloc (.cells #[.int .i64 l.Id, .int .i64 l.Token, .string l.Path, .int .i64 l.Made, .int .i64 l.Ends, .int .i64 l.Limit] 26)).grown hgrow (hne _ (by omega))); have hcOA := BOA.cell; have hfOA := BOA.frozen; have BZA := ((BK0'.alloc (.cells #[.int .i64 l.Id, .int .i64 l.Token, .string l.Path, .int .i64 l.Made, .int .i64 l.Ends, .int .i64 l.Limit] 26)).grown hgrow (hne _ (by omega))); have hcZA := BZA.cell; have hfZA := BZA.frozen)))
  have hzg := hgrow.size
  have hzg2 : W6.heap.size + 1 ≤ wA.heap.size := by simpa using hzg
  have hbA : Below w.heap.size w (wA.setCell ⟨w1.heap.size, 0, none⟩ (.slice (some ⟨gg, 0, none⟩) (n + 1) cap)) := (Below.grown (Below.alloc hbC (by omega) (.cells #[.int .i64 l.Id, .int .i64 l.Token, .string l.Path, .int .i64 l.Made, .int .i64 l.Ends, .int .i64 l.Limit] 26)) hgrow (by simp; omega) (fun q e => by have := hlt6 q e; omega)).setCell (by simp; try omega) _
  have B6B : Blk (wA.setCell ⟨w1.heap.size, 0, none⟩ (.slice (some ⟨gg, 0, none⟩) (n + 1) cap)) w1.heap.size 36 #[.slice (some ⟨gg, 0, none⟩) (n + 1) cap] := by simpa using BOA.set_ 0 (.slice (some ⟨gg, 0, none⟩) (n + 1) cap)
  have BK0B : Blk (wA.setCell ⟨w1.heap.size, 0, none⟩ (.slice (some ⟨gg, 0, none⟩) (n + 1) cap)) w.heap.size 36 #[.slice A0 n c0] := ((BK0'.alloc (.cells #[.int .i64 l.Id, .int .i64 l.Token, .string l.Path, .int .i64 l.Made, .int .i64 l.Ends, .int .i64 l.Limit] 26)).grown hgrow (hne _ (by omega))).far (by simp; try omega) _
  have BRB : Blk (wA.setCell ⟨w1.heap.size, 0, none⟩ (.slice (some ⟨gg, 0, none⟩) (n + 1) cap)) (w.heap.size + 2) 36 #[.slice none 0 0] := ((BR'.alloc (.cells #[.int .i64 l.Id, .int .i64 l.Token, .string l.Path, .int .i64 l.Made, .int .i64 l.Ends, .int .i64 l.Limit] 26)).grown hgrow (hne _ (by omega))).far (by simp; try omega) _
  have hgg6 : gg ≠ w1.heap.size := by
    rcases hat with h | h
    · have h2 : (Value.slice D n d).ownBlock = (Value.slice (some ⟨gg, 0, none⟩) (n + 1) cap).ownBlock := h.symm
      have h3 : (Value.slice D n d).ownBlock = some gg := by rw [h2]; simp [Value.ownBlock]
      have := hlt6 _ h3; omega
    · have h3 : gg = W6.heap.size + 1 := by simpa [Value.ownBlock] using h
      omega
  have howA : World.ownsRow (wA.setCell ⟨w1.heap.size, 0, none⟩ (.slice (some ⟨gg, 0, none⟩) (n + 1) cap)) (w.heap.size + 3) 26 6 (.slice (some ⟨gg, 0, none⟩) (n + 1) cap) (n + 1) ((ls ++ [l]).flatMap Lease.cells) := own_setCell_o (by rw [List.flatMap_append]; simpa [Lease.cells] using hown1) (fun g hg => by have e2 : gg = g := (by simpa [Value.ownBlock] using hg); rw [← e2]; exact hgg6) _
  have hzW : w1.heap.size + 2 ≤ (wA.setCell ⟨w1.heap.size, 0, none⟩ (.slice (some ⟨gg, 0, none⟩) (n + 1) cap)).heap.size := by simp; omega
  generalize (wA.setCell ⟨w1.heap.size, 0, none⟩ (.slice (some ⟨gg, 0, none⟩) (n + 1) cap)) = ws at *
  clear hgrow hown1 hat BOA hcOA hfOA BZA hcZA hfZA B6 hc6 hf6 BK0' BK1' BR' hcK ho6 hbC hlt6 hne hc0 hf0 hl0 hc1 hf1 hl1 hcR hfR hlR BK0 BK1 BR ho1 ho3
  have hc0 := BK0B.cell; have hf0 := BK0B.frozen; have hl0 := BK0B.lt; have hcR := BRB.cell; have hfR := BRB.frozen; have hlR := BRB.lt; have hc6 := B6B.cell; have hf6 := B6B.frozen; have hl6 := B6B.lt
  cases hfin : bookOk (ls ++ [l])
  · have HD := Lib.hid (addOk_no hfin)
    have HL := Lib.hid (addL_no HD.out)
    rw [hfin] at HB2
    clear hfin
    go_wp2_with fail
    refine (HB2.out _ _ _ (rd_own_LeaseS howA HLen.out HPS.out) (HM.out _ (by (repeat (first | (with_reducible exact Below.refl _ _) | (with_reducible assumption) | ((with_reducible refine Below.setCell ?_ ?_ _); rotate_left; focus (first | omega | (simp; done) | (simp; omega))) | ((with_reducible refine Below.alloc ?_ ?_ _); rotate_left; focus (first | omega | (simp; done) | (simp; omega))) | (with_reducible refine Below.drew ?_) | (with_reducible refine below_drewN ?_ _) | (refine Below.trans ?_ (Below.mono (by with_reducible assumption) (by (first | omega | (simp; done) | (simp; omega)))))))))).mono ?_
    rintro e w3 ⟨rfl, hb3⟩
    have hz3 := hb3.size
    replace BK0B := BK0B.keep hb3; replace BRB := BRB.keep hb3
    replace hc0 := BK0B.cell; replace hf0 := BK0B.frozen; replace hl0 := BK0B.lt; replace hcR := BRB.cell; replace hfR := BRB.frozen; replace hlR := BRB.lt
    have hbw3 : Below w.heap.size w w3 := by (repeat (first | (with_reducible exact Below.refl _ _) | (with_reducible assumption) | ((with_reducible refine Below.setCell ?_ ?_ _); rotate_left; focus (first | omega | (simp; done) | (simp; omega))) | ((with_reducible refine Below.alloc ?_ ?_ _); rotate_left; focus (first | omega | (simp; done) | (simp; omega))) | (with_reducible refine Below.drew ?_) | (with_reducible refine below_drewN ?_ _) | (refine Below.trans ?_ (Below.mono (by with_reducible assumption) (by (first | omega | (simp; done) | (simp; omega)))))))
    clear hb3 hbA
    go_wp2_with fail
    refine (HCl.out _ (HRs.out _ (by (repeat (first | (with_reducible exact Below.refl _ _) | (with_reducible assumption) | ((with_reducible refine Below.setCell ?_ ?_ _); rotate_left; focus (first | omega | (simp; done) | (simp; omega))) | ((with_reducible refine Below.alloc ?_ ?_ _); rotate_left; focus (first | omega | (simp; done) | (simp; omega))) | (with_reducible refine Below.drew ?_) | (with_reducible refine below_drewN ?_ _) | (refine Below.trans ?_ (Below.mono (by with_reducible assumption) (by (first | omega | (simp; done) | (simp; omega)))))))) (by first | omega | (simp; done) | (simp; omega)))).mono ?_
    rintro e w4 ⟨E, f, rfl, ho4, hb4⟩
    have hz4 := hb4.size
    replace BRB := BRB.keep hb4
    replace hcR := BRB.cell; replace hfR := BRB.frozen; replace hlR := BRB.lt
    go_wp2
    refine bodyPost_ret (v := .tuple #[.agg #[.slice E n f], .bool false]) (by simp [results, Tryd.results48, go_sem, hcR, hfR]) rfl ⟨E, f, by rw [HD.out, HL.out, Hn.out], ?_, by (repeat (first | (with_reducible exact Below.refl _ _) | (with_reducible assumption) | ((with_reducible refine Below.setCell ?_ ?_ _); rotate_left; focus (first | omega | (simp; done) | (simp; omega))) | ((with_reducible refine Below.alloc ?_ ?_ _); rotate_left; focus (first | omega | (simp; done) | (simp; omega))) | (with_reducible refine Below.drew ?_) | (with_reducible refine below_drewN ?_ _) | (refine Below.trans ?_ (Below.mono (by with_reducible assumption) (by (first | omega | (simp; done) | (simp; omega)))))))⟩
    rw [HL.out, Hn.out]
    exact own_base (own_setCell ho4 (by first | omega | (simp; done) | (simp; omega)) _) (by first | omega | (simp; done) | (simp; omega))
  · have HD := Lib.hid (addOk_yes hok hfin)
    have HL := Lib.hid (addL_yes HD.out)
    rw [hfin] at HB2
    clear hfin
    have HW3 := Lib.hid howA
    go_wp2_with fail
    refine (HB2.out _ _ _ (rd_own_LeaseS howA HLen.out HPS.out) (HM.out _ (by (repeat (first | (with_reducible exact Below.refl _ _) | (with_reducible assumption) | ((with_reducible refine Below.setCell ?_ ?_ _); rotate_left; focus (first | omega | (simp; done) | (simp; omega))) | ((with_reducible refine Below.alloc ?_ ?_ _); rotate_left; focus (first | omega | (simp; done) | (simp; omega))) | (with_reducible refine Below.drew ?_) | (with_reducible refine below_drewN ?_ _) | (refine Below.trans ?_ (Below.mono (by with_reducible assumption) (by (first | omega | (simp; done) | (simp; omega)))))))))).mono ?_
    rintro e w3 ⟨rfl, hb3⟩
    have hz3 := hb3.size
    replace B6B := B6B.keep hb3; replace BRB := BRB.keep hb3
    replace hc6 := B6B.cell; replace hf6 := B6B.frozen; replace hcR := BRB.cell; replace hfR := BRB.frozen; replace hlR := BRB.lt
    have howB := own_below HW3.out hb3
    go_wp2
    refine bodyPost_ret (v := .tuple #[.agg #[.slice (some ⟨gg, 0, none⟩) (n + 1) cap], .bool true]) (by simp [results, Tryd.results48, go_sem, hcR, hfR]) rfl ⟨some ⟨gg, 0, none⟩, cap, by rw [HD.out, HL.out, HLen.out], ?_, by (repeat (first | (with_reducible exact Below.refl _ _) | (with_reducible assumption) | ((with_reducible refine Below.setCell ?_ ?_ _); rotate_left; focus (first | omega | (simp; done) | (simp; omega))) | ((with_reducible refine Below.alloc ?_ ?_ _); rotate_left; focus (first | omega | (simp; done) | (simp; omega))) | (with_reducible refine Below.drew ?_) | (with_reducible refine below_drewN ?_ _) | (refine Below.trans ?_ (Below.mono (by with_reducible assumption) (by (first | omega | (simp; done) | (simp; omega)))))))⟩
    rw [HL.out, HLen.out]
    exact own_base (own_setCell howB (by first | omega | (simp; done) | (simp; omega)) _) (by first | omega | (simp; done) | (simp; omega))
end Go.Proofs.YtbfnkfaagmjfnaaDoor

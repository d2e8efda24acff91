/- RotateRing of the program, where it may. -/
import Derived.Test.YtlncnicpiadaaaaRotate
import Derived.Test.YtlncnicpiadaaaaDrawB
import Derived.Deep.DeepCutAuto
set_option linter.unusedSimpArgs false
set_option linter.unusedVariables false
set_option maxRecDepth 20000
namespace Go.Proofs.Ytlncnicpiadaaaa
open Go.RowKit
theorem own_ints {w : World} {base g n cap : Nat} {xs : List Int} (hl : xs.length = n) (h : w.ownsRow base 3 1 (.slice (some ⟨g, 0, none⟩) n cap) n (xs.map intV)) : SlOwn intR 3 w (fun q => q = g) (.slice (some ⟨g, 0, none⟩) n cap) xs := by
  subst hl
  exact (of_own_IntS h).wide (fun q hq => by simpa [Value.ownBlock] using hq.symm)
theorem rd_drop1 {w : World} {B g n cap : Nat} {xs : List Int} (hn : xs.length = n + 1) (h : SlRd intR w B (.slice (some ⟨g, 0, none⟩) (n + 1) cap) xs) : SlRd intR w B (.slice (some ⟨g, 1, none⟩) n (cap - 1)) (xs.drop 1) := by
  obtain ⟨-, hr, h1, h2⟩ := rd_IntS h
  have := of_rd_IntS (xs := xs.drop 1) (c := cap - 1) (by rw [List.map_drop]; exact Reads.drop1 hr) (by rw [List.length_drop]; omega) (by omega)
  rwa [List.length_drop, hn, Nat.add_sub_cancel] at this
set_option maxHeartbeats 3200000 in
theorem impl_RotateRing (cs : List Value) (r : KeyRing) (key : Int) (w : World) (h : KeyRingR.Rd w w.heap.size cs r) (hok : ringOk r = true) (hkey : keyOk key = true) (hf : r.First ≤ 999999) :
    Calls Try.prog 28 #[.agg cs.toArray, .int .i64 key] w fun e w' => ∃ v, e = .returned (.tuple #[.agg #[.int .i64 (rotR r key).First, v], .bool true]) ∧ SlRd intR w' w'.heap.size v (rotR r key).Secrets ∧ (∀ b off n c, v = .slice (some ⟨b, off, none⟩) n c → w.heap.size ≤ b) ∧ Below w.heap.size w w' := by
  obtain ⟨j0, hj0, hJ0, hJ1, hJ2⟩ := info_parts info_int
  obtain ⟨v0, rfl, q0⟩ := rd_KeyRing h
  obtain ⟨A0, c0, rfl⟩ := q0.form
  obtain ⟨p1, p2, p3, p4, -⟩ := ringOk_parts hok
  have hm : KeyRingR.sz r ≤ 1048576 := by rw [sz_KeyRing, sz_IntS]; omega
  have hok2 := rotR_ok hok hkey hf
  have hl2 : (rotR r key).Secrets.length ≤ 12 := (ringOk_parts hok2).2.2.2.1
  have HR := Lib.hid (fun (w' : World) (hb : Below w.heap.size w w') => impl_isRing [.int .i64 r.First, .slice A0 r.Secrets.length c0] r w' (KeyRingR.rd_keep h hb hb.size) hm)
  have HCl := Lib.hid (fun (w' : World) (hb : Below w.heap.size w w') => impl_cloneRing [.int .i64 r.First, .slice A0 r.Secrets.length c0] r w' (KeyRingR.rd_keep h hb hb.size) hm)
  have HK := Lib.hid (fun w => impl_isKey key w)
  rw [hok] at HR
  rw [hkey] at HK
  have HN := Lib.hid (fun (cs' : List Value) (w' : World) (hr : KeyRingR.Rd w' w'.heap.size cs' (rotR r key)) => (hok2 ▸ impl_isRing cs' (rotR r key) w' hr (by rw [sz_KeyRing, sz_IntS]; omega) : Calls Try.prog 38 #[.agg cs'.toArray] w' fun e w'' => e = .returned (.bool true) ∧ Below w'.heap.size w' w''))
  by_cases hn : 12 ≤ r.Secrets.length
  · have HRot := Lib.hid (rotR_full (k := key) hn)
    generalize rotR r key = nx at *
    obtain ⟨n, hnn⟩ : ∃ n, r.Secrets.length = n := ⟨_, rfl⟩
    rw [hnn] at p3 p4 hn HR HCl
    obtain rfl : n = 12 := by omega
    have Hn := Lib.hid hnn
    have q0' := q0
    clear h q0 hok hok2 hm hl2
    rw [hnn]
    clear hnn
    go_enter Try.func28, Try.ntmps28
    go_wp2_with fail
    refine (HCl.out _ (by (repeat (first | (with_reducible exact Below.refl _ _) | (with_reducible assumption) | ((with_reducible refine Below.setCell ?_ ?_ _); rotate_left; focus (first | omega | (simp; done) | (simp; omega))) | ((with_reducible refine Below.alloc ?_ ?_ _); rotate_left; focus (first | omega | (simp; done) | (simp; omega))) | (with_reducible refine Below.drew ?_) | (with_reducible refine below_drewN ?_ _) | (refine Below.trans ?_ (Below.mono (by with_reducible assumption) (by (first | omega | (simp; done) | (simp; omega))))))))).mono ?_
    rintro e w1 ⟨D, d, rfl, ho1, hb1⟩
    have hz1 := hb1.size; try simp at hz1
    have BK0 := (by (repeat (first | (with_reducible assumption) | ((with_reducible refine Blk.new' ?_); focus (simp; done)) | (with_reducible refine Blk.alloc ?_ _) | (with_reducible refine Blk.drew ?_) | (with_reducible refine Blk.drewN ?_ _) | ((with_reducible refine Blk.far ?_ ?_ _); rotate_left; focus (first | omega | (simp; done) | (simp; omega))) | (refine Blk.keep ?_ (by with_reducible assumption)) | (refine Blk.below ?_ (by with_reducible assumption) (by (first | omega | (simp; done) | (simp; omega)))))) : Blk w1 w.heap.size 34 #[.int .i64 r.First, .slice A0 12 c0]); have hc0 := BK0.cell; have hf0 := BK0.frozen
    have BK1 := (by (repeat (first | (with_reducible assumption) | ((with_reducible refine Blk.new' ?_); focus (simp; done)) | (with_reducible refine Blk.alloc ?_ _) | (with_reducible refine Blk.drew ?_) | (with_reducible refine Blk.drewN ?_ _) | ((with_reducible refine Blk.far ?_ ?_ _); rotate_left; focus (first | omega | (simp; done) | (simp; omega))) | (refine Blk.keep ?_ (by with_reducible assumption)) | (refine Blk.below ?_ (by with_reducible assumption) (by (first | omega | (simp; done) | (simp; omega)))))) : Blk w1 (w.heap.size + 1) 34 #[.int .i64 0, .slice none 0 0]); have hc1 := BK1.cell; have hf1 := BK1.frozen
    have hl0 := BK0.lt; have hl1 := BK1.lt
    go_wp2_with fail
    refine (HR.out _ (by (repeat (first | (with_reducible exact Below.refl _ _) | (with_reducible assumption) | ((with_reducible refine Below.setCell ?_ ?_ _); rotate_left; focus (first | omega | (simp; done) | (simp; omega))) | ((with_reducible refine Below.alloc ?_ ?_ _); rotate_left; focus (first | omega | (simp; done) | (simp; omega))) | (with_reducible refine Below.drew ?_) | (with_reducible refine below_drewN ?_ _) | (refine Below.trans ?_ (Below.mono (by with_reducible assumption) (by (first | omega | (simp; done) | (simp; omega))))))))).mono ?_
    rintro e w2 ⟨rfl, hb2⟩
    have hz2 := hb2.size; try simp at hz2
    replace BK0 := (BK0.alloc (.cells #[.int .i64 r.First, .slice D 12 d] 34)).keep hb2; replace hc0 := BK0.cell; replace hf0 := BK0.frozen; replace hl0 := BK0.lt
    replace BK1 := (BK1.alloc (.cells #[.int .i64 r.First, .slice D 12 d] 34)).keep hb2; replace hc1 := BK1.cell; replace hf1 := BK1.frozen; replace hl1 := BK1.lt
    go_wp2_with (go_at_call 44; refine (HK.out _).mono ?_; rintro e w' ⟨rfl, rfl⟩)
    refine (HCl.out _ (by (repeat (first | (with_reducible exact Below.refl _ _) | (with_reducible assumption) | ((with_reducible refine Below.setCell ?_ ?_ _); rotate_left; focus (first | omega | (simp; done) | (simp; omega))) | ((with_reducible refine Below.alloc ?_ ?_ _); rotate_left; focus (first | omega | (simp; done) | (simp; omega))) | (with_reducible refine Below.drew ?_) | (with_reducible refine below_drewN ?_ _) | (refine Below.trans ?_ (Below.mono (by with_reducible assumption) (by (first | omega | (simp; done) | (simp; omega))))))))).mono ?_
    rintro e w3 ⟨E, d3, rfl, ho3, hb3⟩
    have hz3 := hb3.size; try simp at hz3
    replace BK0 := BK0.keep hb3; replace hc0 := BK0.cell; replace hf0 := BK0.frozen
    replace BK1 := BK1.keep hb3; replace hc1 := BK1.cell; replace hf1 := BK1.frozen
    replace hl0 := BK0.lt; replace hl1 := BK1.lt
    have h3lt : ∀ q, (Value.slice E 12 d3).ownBlock = some q → w2.heap.size + 2 ≤ q ∧ q < w3.heap.size := fun q e => ho3.lt q e
    have hneq : ∀ q, (q < w2.heap.size + 2 ∨ w3.heap.size ≤ q) → some q ≠ (Value.slice E 12 d3).ownBlock := fun q hq e => by have := h3lt q e.symm; omega
    have B7 : Blk (w3.alloc (.cells #[.int .i64 r.First, .slice E 12 d3] 34)) w3.heap.size 34 #[.int .i64 r.First, .slice E 12 d3] := Blk.new' rfl
    have ho3' : w3.ownsRow (w2.heap.size + 2) 3 1 (.slice E 12 d3) 12 (r.Secrets.map intV) := own_base ho3 (by omega)
    go_wp2_with (first | (at_builtin; go_loud (refine wpList_append_own_at _ rfl _ _ 22 rfl (w2.heap.size + 2) 3 j0 (.int .i64 0) 1 8 Try.underlying22 hj0 hJ0 hJ1 hJ2 rfl (by decide) _ _ _ rfl ((ho3'.alloc _).alloc _) ⟨w3.heap.size + 1, 0, none⟩ 1 1 [.int .i64 key] rfl rfl ?c1 ?c2 ?c3 ?c4 ?c5 ?_; (case c1 => exact World.news_of_block (cs := #[.int .i64 key]) (t := 3) (fr := (0, 0)) (Blk.new' (by simp))); (case c2 => simp [Value.oneCell']); (case c3 => (simp only [maxLen]; omega)); (case c4 => omega); (case c5 => (simp; omega)); intro v' wA hown1 hgrow hnil hat; obtain ⟨gg, cap, rfl, hg1, hg2⟩ := hown1.form (by omega); have BKA0 := ((BK0.alloc (.cells #[.int .i64 r.First, .slice E 12 d3] 34)).alloc (.cells #[.int .i64 key] 3)).grown hgrow (hneq _ (by omega)); have BKA1 := ((BK1.alloc (.cells #[.int .i64 r.First, .slice E 12 d3] 34)).alloc (.cells #[.int .i64 key] 3)).grown hgrow (hneq _ (by omega)); have BKA7 := (B7.alloc (.cells #[.int .i64 key] 3)).grown hgrow (hneq _ (by omega)); have hcA0 := BKA0.cell; have hfA0 := BKA0.frozen; have hcA1 := BKA1.cell; have hfA1 := BKA1.frozen; have hcA7 := BKA7.cell; have hfA7 := BKA7.frozen)))
    have hzA : w3.heap.size + 2 ≤ wA.heap.size := by simpa using hgrow.size
    have hbP : Below w.heap.size w ((w3.alloc (.cells #[.int .i64 r.First, .slice E 12 d3] 34)).alloc (.cells #[.int .i64 key] 3)) := by (repeat (first | (with_reducible exact Below.refl _ _) | (with_reducible assumption) | ((with_reducible refine Below.setCell ?_ ?_ _); rotate_left; focus (first | omega | (simp; done) | (simp; omega))) | ((with_reducible refine Below.alloc ?_ ?_ _); rotate_left; focus (first | omega | (simp; done) | (simp; omega))) | (with_reducible refine Below.drew ?_) | (with_reducible refine below_drewN ?_ _) | (refine Below.trans ?_ (Below.mono (by with_reducible assumption) (by (first | omega | (simp; done) | (simp; omega)))))))
    have hbA : Below w.heap.size w wA := Below.grown hbP hgrow (by simp; omega) (fun q e => by have := h3lt q e; omega)
    have hgne : gg ≠ w3.heap.size := by
      rcases hat with hat | hat
      · have := h3lt gg hat.symm; omega
      · simp [Value.ownBlock] at hat; omega
    have hso := own_ints (xs := r.Secrets ++ [key]) (by rw [List.length_append, Hn.out, List.length_singleton]) (by rw [List.map_append]; exact hown1)
    have hgA : gg < wA.heap.size := hg2
    have hO5 := out_set wA w3.heap.size 1 (.slice (some ⟨gg, 0, none⟩) 13 cap)
    have BK7 : Blk (wA.setCell ⟨w3.heap.size, 1, none⟩ (.slice (some ⟨gg, 0, none⟩) 13 cap)) w3.heap.size 34 #[.int .i64 r.First, .slice (some ⟨gg, 0, none⟩) 13 cap] := by simpa using BKA7.set_ 1 (.slice (some ⟨gg, 0, none⟩) 13 cap)
    have BK1' := BKA1.out hO5 (by omega)
    have hso5 := hso.out hO5 (fun q hq hq2 => by omega)
    have hb5 : Below w.heap.size w (wA.setCell ⟨w3.heap.size, 1, none⟩ (.slice (some ⟨gg, 0, none⟩) 13 cap)) := hbA.setCell (by simp; omega) _
    have hz5 : (wA.setCell ⟨w3.heap.size, 1, none⟩ (.slice (some ⟨gg, 0, none⟩) 13 cap)).heap.size = wA.heap.size := by simp
    have BK0' := BKA0.out hO5 (by omega)
    generalize wA.setCell ⟨w3.heap.size, 1, none⟩ (.slice (some ⟨gg, 0, none⟩) 13 cap) = W5 at *
    have hc0' := BK0'.cell
    have hc7 := BK7.cell
    have hf7 := BK7.frozen
    have hwr : IntKind.i64.wrap (r.First + 1) = r.First + 1 := IntWalk.i64_in _ (by omega)
    go_wp2_with fail
    have hcap := (rd_IntS (hso5.rd (B := wA.heap.size) (fun q hq => by omega))).2.2
    rw [List.length_append, Hn.out] at hcap
    have hcap1 : ¬ cap = 1 := by have := hcap.1; simp at this; omega
    go_region_law (fail)
    all_goals
      have hO6 : Out (fun q => q = w3.heap.size) W5 ((W5.setCell ⟨w3.heap.size, 0, none⟩ (.int .i64 (r.First + 1))).setCell ⟨w3.heap.size, 1, none⟩ (.slice (some ⟨gg, 1, none⟩) 12 (cap - 1))).drew := ((out_set _ _ _ _).trans (out_set _ _ _ _)).drew
      have BK7' : Blk ((W5.setCell ⟨w3.heap.size, 0, none⟩ (.int .i64 (r.First + 1))).setCell ⟨w3.heap.size, 1, none⟩ (.slice (some ⟨gg, 1, none⟩) 12 (cap - 1))).drew w3.heap.size 34 #[.int .i64 (r.First + 1), .slice (some ⟨gg, 1, none⟩) 12 (cap - 1)] := by
        have := ((BK7.set_ 0 (.int .i64 (r.First + 1))).set_ 1 (.slice (some ⟨gg, 1, none⟩) 12 (cap - 1))).drew
        simpa using this
      have BK1'' := BK1'.out hO6 (by omega)
      have hso6 := hso5.out hO6 (fun q hq hq2 => by omega)
      have hb6 : Below w.heap.size w ((W5.setCell ⟨w3.heap.size, 0, none⟩ (.int .i64 (r.First + 1))).setCell ⟨w3.heap.size, 1, none⟩ (.slice (some ⟨gg, 1, none⟩) 12 (cap - 1))).drew := by (repeat (first | (with_reducible exact Below.refl _ _) | (with_reducible assumption) | ((with_reducible refine Below.setCell ?_ ?_ _); rotate_left; focus (first | omega | (simp; done) | (simp; omega))) | ((with_reducible refine Below.alloc ?_ ?_ _); rotate_left; focus (first | omega | (simp; done) | (simp; omega))) | (with_reducible refine Below.drew ?_) | (with_reducible refine below_drewN ?_ _) | (refine Below.trans ?_ (Below.mono (by with_reducible assumption) (by (first | omega | (simp; done) | (simp; omega)))))))
      have hz6' : ((W5.setCell ⟨w3.heap.size, 0, none⟩ (.int .i64 (r.First + 1))).setCell ⟨w3.heap.size, 1, none⟩ (.slice (some ⟨gg, 1, none⟩) 12 (cap - 1))).drew.heap.size = wA.heap.size := by rw [← hz5]; simp
      go_wp2_with fail
      generalize ((W5.setCell ⟨w3.heap.size, 0, none⟩ (.int .i64 (r.First + 1))).setCell ⟨w3.heap.size, 1, none⟩ (.slice (some ⟨gg, 1, none⟩) 12 (cap - 1))).drew = W6 at *
      have hcc7 := BK7'.cell
      go_wp2_with fail
      refine (HN.out _ _ (by rw [HRot.out]; exact of_rd_KeyRing (x := ⟨r.First + 1, (r.Secrets ++ [key]).drop 1⟩) (rd_drop1 (by rw [List.length_append, Hn.out, List.length_singleton]) (hso6.rd (fun q hq => by omega))))).mono ?_
      rintro e w7 ⟨rfl, hb7⟩
      replace BK7' := BK7'.keep hb7
      replace BK1'' := BK1''.keep hb7
      replace hcc7 := BK7'.cell
      have hc1'' := BK1''.cell; have hf1'' := BK1''.frozen
      have hz7 := hb7.size
      have hso7 := hso6.below hb7 (fun q hq => by omega)
      have hb67 := hb6.trans (hb7.mono (by omega))
      go_wp2
      refine bodyPost_ret (v := .tuple #[.agg #[.int .i64 (r.First + 1), .slice (some ⟨gg, 1, none⟩) 12 (cap - 1)], .bool true]) (by simp [results, Try.results28, go_sem, hc1'', hf1'']) rfl ⟨.slice (some ⟨gg, 1, none⟩) 12 (cap - 1), by rw [HRot.out], ?_, ?_, ?_⟩
      · rw [HRot.out]
        refine (rd_drop1 (by rw [List.length_append, Hn.out, List.length_singleton]) ((hso7.out ((out_set _ _ _ _).trans (out_set _ _ _ _)) (fun q hq hq2 => by omega)).rd (fun q hq => by simp; omega)))
      · intro b off n c e
        simp only [Value.slice.injEq, Option.some.injEq, Addr.mk.injEq] at e
        omega
      · (repeat (first | (with_reducible exact Below.refl _ _) | (with_reducible assumption) | ((with_reducible refine Below.setCell ?_ ?_ _); rotate_left; focus (first | omega | (simp; done) | (simp; omega))) | ((with_reducible refine Below.alloc ?_ ?_ _); rotate_left; focus (first | omega | (simp; done) | (simp; omega))) | (with_reducible refine Below.drew ?_) | (with_reducible refine below_drewN ?_ _) | (refine Below.trans ?_ (Below.mono (by with_reducible assumption) (by (first | omega | (simp; done) | (simp; omega)))))))
  · have HRot := Lib.hid (rotR_more (k := key) hn)
    generalize rotR r key = nx at *
    obtain ⟨n, hnn⟩ : ∃ n, r.Secrets.length = n := ⟨_, rfl⟩
    rw [hnn] at p3 p4 hn HR HCl
    have Hn := Lib.hid hnn
    have q0' := q0
    clear h q0 hok hok2 hm hl2
    rw [hnn]
    clear hnn
    go_enter Try.func28, Try.ntmps28
    go_wp2_with fail
    refine (HCl.out _ (by (repeat (first | (with_reducible exact Below.refl _ _) | (with_reducible assumption) | ((with_reducible refine Below.setCell ?_ ?_ _); rotate_left; focus (first | omega | (simp; done) | (simp; omega))) | ((with_reducible refine Below.alloc ?_ ?_ _); rotate_left; focus (first | omega | (simp; done) | (simp; omega))) | (with_reducible refine Below.drew ?_) | (with_reducible refine below_drewN ?_ _) | (refine Below.trans ?_ (Below.mono (by with_reducible assumption) (by (first | omega | (simp; done) | (simp; omega))))))))).mono ?_
    rintro e w1 ⟨D, d, rfl, ho1, hb1⟩
    have hz1 := hb1.size; try simp at hz1
    have BK0 := (by (repeat (first | (with_reducible assumption) | ((with_reducible refine Blk.new' ?_); focus (simp; done)) | (with_reducible refine Blk.alloc ?_ _) | (with_reducible refine Blk.drew ?_) | (with_reducible refine Blk.drewN ?_ _) | ((with_reducible refine Blk.far ?_ ?_ _); rotate_left; focus (first | omega | (simp; done) | (simp; omega))) | (refine Blk.keep ?_ (by with_reducible assumption)) | (refine Blk.below ?_ (by with_reducible assumption) (by (first | omega | (simp; done) | (simp; omega)))))) : Blk w1 w.heap.size 34 #[.int .i64 r.First, .slice A0 n c0]); have hc0 := BK0.cell; have hf0 := BK0.frozen
    have BK1 := (by (repeat (first | (with_reducible assumption) | ((with_reducible refine Blk.new' ?_); focus (simp; done)) | (with_reducible refine Blk.alloc ?_ _) | (with_reducible refine Blk.drew ?_) | (with_reducible refine Blk.drewN ?_ _) | ((with_reducible refine Blk.far ?_ ?_ _); rotate_left; focus (first | omega | (simp; done) | (simp; omega))) | (refine Blk.keep ?_ (by with_reducible assumption)) | (refine Blk.below ?_ (by with_reducible assumption) (by (first | omega | (simp; done) | (simp; omega)))))) : Blk w1 (w.heap.size + 1) 34 #[.int .i64 0, .slice none 0 0]); have hc1 := BK1.cell; have hf1 := BK1.frozen
    have hl0 := BK0.lt; have hl1 := BK1.lt
    go_wp2_with fail
    refine (HR.out _ (by (repeat (first | (with_reducible exact Below.refl _ _) | (with_reducible assumption) | ((with_reducible refine Below.setCell ?_ ?_ _); rotate_left; focus (first | omega | (simp; done) | (simp; omega))) | ((with_reducible refine Below.alloc ?_ ?_ _); rotate_left; focus (first | omega | (simp; done) | (simp; omega))) | (with_reducible refine Below.drew ?_) | (with_reducible refine below_drewN ?_ _) | (refine Below.trans ?_ (Below.mono (by with_reducible assumption) (by (first | omega | (simp; done) | (simp; omega))))))))).mono ?_
    rintro e w2 ⟨rfl, hb2⟩
    have hz2 := hb2.size; try simp at hz2
    replace BK0 := (BK0.alloc (.cells #[.int .i64 r.First, .slice D n d] 34)).keep hb2; replace hc0 := BK0.cell; replace hf0 := BK0.frozen; replace hl0 := BK0.lt
    replace BK1 := (BK1.alloc (.cells #[.int .i64 r.First, .slice D n d] 34)).keep hb2; replace hc1 := BK1.cell; replace hf1 := BK1.frozen; replace hl1 := BK1.lt
    go_wp2_with (go_at_call 44; refine (HK.out _).mono ?_; rintro e w' ⟨rfl, rfl⟩)
    refine (HCl.out _ (by (repeat (first | (with_reducible exact Below.refl _ _) | (with_reducible assumption) | ((with_reducible refine Below.setCell ?_ ?_ _); rotate_left; focus (first | omega | (simp; done) | (simp; omega))) | ((with_reducible refine Below.alloc ?_ ?_ _); rotate_left; focus (first | omega | (simp; done) | (simp; omega))) | (with_reducible refine Below.drew ?_) | (with_reducible refine below_drewN ?_ _) | (refine Below.trans ?_ (Below.mono (by with_reducible assumption) (by (first | omega | (simp; done) | (simp; omega))))))))).mono ?_
    rintro e w3 ⟨E, d3, rfl, ho3, hb3⟩
    have hz3 := hb3.size; try simp at hz3
    replace BK0 := BK0.keep hb3; replace hc0 := BK0.cell; replace hf0 := BK0.frozen
    replace BK1 := BK1.keep hb3; replace hc1 := BK1.cell; replace hf1 := BK1.frozen
    replace hl0 := BK0.lt; replace hl1 := BK1.lt
    have h3lt : ∀ q, (Value.slice E n d3).ownBlock = some q → w2.heap.size + 2 ≤ q ∧ q < w3.heap.size := fun q e => ho3.lt q e
    have hneq : ∀ q, (q < w2.heap.size + 2 ∨ w3.heap.size ≤ q) → some q ≠ (Value.slice E n d3).ownBlock := fun q hq e => by have := h3lt q e.symm; omega
    have B7 : Blk (w3.alloc (.cells #[.int .i64 r.First, .slice E n d3] 34)) w3.heap.size 34 #[.int .i64 r.First, .slice E n d3] := Blk.new' rfl
    have ho3' : w3.ownsRow (w2.heap.size + 2) 3 1 (.slice E n d3) n (r.Secrets.map intV) := own_base ho3 (by omega)
    go_wp2_with (first | (at_builtin; go_loud (refine wpList_append_own_at _ rfl _ _ 22 rfl (w2.heap.size + 2) 3 j0 (.int .i64 0) 1 8 Try.underlying22 hj0 hJ0 hJ1 hJ2 rfl (by decide) _ _ _ rfl ((ho3'.alloc _).alloc _) ⟨w3.heap.size + 1, 0, none⟩ 1 1 [.int .i64 key] rfl rfl ?c1 ?c2 ?c3 ?c4 ?c5 ?_; (case c1 => exact World.news_of_block (cs := #[.int .i64 key]) (t := 3) (fr := (0, 0)) (Blk.new' (by simp))); (case c2 => simp [Value.oneCell']); (case c3 => (simp only [maxLen]; omega)); (case c4 => omega); (case c5 => (simp; omega)); intro v' wA hown1 hgrow hnil hat; obtain ⟨gg, cap, rfl, hg1, hg2⟩ := hown1.form (by omega); have BKA0 := ((BK0.alloc (.cells #[.int .i64 r.First, .slice E n d3] 34)).alloc (.cells #[.int .i64 key] 3)).grown hgrow (hneq _ (by omega)); have BKA1 := ((BK1.alloc (.cells #[.int .i64 r.First, .slice E n d3] 34)).alloc (.cells #[.int .i64 key] 3)).grown hgrow (hneq _ (by omega)); have BKA7 := (B7.alloc (.cells #[.int .i64 key] 3)).grown hgrow (hneq _ (by omega)); have hcA0 := BKA0.cell; have hfA0 := BKA0.frozen; have hcA1 := BKA1.cell; have hfA1 := BKA1.frozen; have hcA7 := BKA7.cell; have hfA7 := BKA7.frozen)))
    have hzA : w3.heap.size + 2 ≤ wA.heap.size := by simpa using hgrow.size
    have hbP : Below w.heap.size w ((w3.alloc (.cells #[.int .i64 r.First, .slice E n d3] 34)).alloc (.cells #[.int .i64 key] 3)) := by (repeat (first | (with_reducible exact Below.refl _ _) | (with_reducible assumption) | ((with_reducible refine Below.setCell ?_ ?_ _); rotate_left; focus (first | omega | (simp; done) | (simp; omega))) | ((with_reducible refine Below.alloc ?_ ?_ _); rotate_left; focus (first | omega | (simp; done) | (simp; omega))) | (with_reducible refine Below.drew ?_) | (with_reducible refine below_drewN ?_ _) | (refine Below.trans ?_ (Below.mono (by with_reducible assumption) (by (first | omega | (simp; done) | (simp; omega)))))))
    have hbA : Below w.heap.size w wA := Below.grown hbP hgrow (by simp; omega) (fun q e => by have := h3lt q e; omega)
    have hgne : gg ≠ w3.heap.size := by
      rcases hat with hat | hat
      · have := h3lt gg hat.symm; omega
      · simp [Value.ownBlock] at hat; omega
    have hso := own_ints (xs := r.Secrets ++ [key]) (by rw [List.length_append, Hn.out, List.length_singleton]) (by rw [List.map_append]; exact hown1)
    have hgA : gg < wA.heap.size := hg2
    have hO5 := out_set wA w3.heap.size 1 (.slice (some ⟨gg, 0, none⟩) (n + 1) cap)
    have BK7 : Blk (wA.setCell ⟨w3.heap.size, 1, none⟩ (.slice (some ⟨gg, 0, none⟩) (n + 1) cap)) w3.heap.size 34 #[.int .i64 r.First, .slice (some ⟨gg, 0, none⟩) (n + 1) cap] := by simpa using BKA7.set_ 1 (.slice (some ⟨gg, 0, none⟩) (n + 1) cap)
    have BK1' := BKA1.out hO5 (by omega)
    have hso5 := hso.out hO5 (fun q hq hq2 => by omega)
    have hb5 : Below w.heap.size w (wA.setCell ⟨w3.heap.size, 1, none⟩ (.slice (some ⟨gg, 0, none⟩) (n + 1) cap)) := hbA.setCell (by simp; omega) _
    have hz5 : (wA.setCell ⟨w3.heap.size, 1, none⟩ (.slice (some ⟨gg, 0, none⟩) (n + 1) cap)).heap.size = wA.heap.size := by simp
    generalize wA.setCell ⟨w3.heap.size, 1, none⟩ (.slice (some ⟨gg, 0, none⟩) (n + 1) cap) = W5 at *
    refine (HN.out _ _ (by rw [HRot.out]; exact of_rd_KeyRing (x := ⟨r.First, r.Secrets ++ [key]⟩) (hso5.rd (fun q hq => by omega)))).mono ?_
    rintro e w6 ⟨rfl, hb6⟩
    replace BK7 := BK7.keep hb6
    replace BK1' := BK1'.keep hb6
    have hc7 := BK7.cell
    have hc1' := BK1'.cell; have hf1' := BK1'.frozen
    have hz6 := hb6.size
    have hso6 := hso5.below hb6 (fun q hq => by omega)
    go_wp2
    refine bodyPost_ret (v := .tuple #[.agg #[.int .i64 r.First, .slice (some ⟨gg, 0, none⟩) (n + 1) cap], .bool true]) (by simp [results, Try.results28, go_sem, hc1', hf1']) rfl ⟨.slice (some ⟨gg, 0, none⟩) (n + 1) cap, by rw [HRot.out], ?_, ?_, ?_⟩
    · rw [HRot.out]
      refine ((hso6.out ((out_set _ _ _ _).trans (out_set _ _ _ _)) (fun q hq hq2 => by omega)).rd (fun q hq => by simp; omega))
    · intro b off m c e
      simp only [Value.slice.injEq, Option.some.injEq, Addr.mk.injEq] at e
      omega
    · have := hb5.trans (hb6.mono (by omega))
      (repeat (first | (with_reducible exact Below.refl _ _) | (with_reducible assumption) | ((with_reducible refine Below.setCell ?_ ?_ _); rotate_left; focus (first | omega | (simp; done) | (simp; omega))) | ((with_reducible refine Below.alloc ?_ ?_ _); rotate_left; focus (first | omega | (simp; done) | (simp; omega))) | (with_reducible refine Below.drew ?_) | (with_reducible refine below_drewN ?_ _) | (refine Below.trans ?_ (Below.mono (by with_reducible assumption) (by (first | omega | (simp; done) | (simp; omega)))))))
end Go.Proofs.Ytlncnicpiadaaaa

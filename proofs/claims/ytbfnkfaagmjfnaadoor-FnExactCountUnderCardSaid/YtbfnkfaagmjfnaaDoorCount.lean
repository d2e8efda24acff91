/- CountUnder, both sides. -/
import Derived.Test.YtbfnkfaagmjfnaaDoorUnder
import Derived.Test.YtbfnkfaagmjfnaaDoorBookL
import Derived.Test.YtbfnkfaagmjfnaaDoorAppend
set_option linter.unusedSimpArgs false
set_option linter.unusedVariables false
set_option maxRecDepth 20000
namespace Go.Proofs.YtbfnkfaagmjfnaaDoor
open Go.RowKit
def cntU (p : ByteArray) (ls : List Lease) : Nat := (ls.filter (fun l => underB p l.Path)).length
def countU (ls : List Lease) (p : ByteArray) : Int := match bookOk ls && pathOk p with | true => ((cntU p ls : Nat) : Int) | false => -1
theorem cntU_yes {p : ByteArray} {ls : List Lease} {k : Nat} {l : Lease} (h : ls[k]? = some l) (hu : underB p l.Path = true) : cntU p (ls.take (k + 1)) = cntU p (ls.take k) + 1 := by unfold cntU; rw [take_snoc h, List.filter_append, List.length_append]; simp [hu]
theorem cntU_no {p : ByteArray} {ls : List Lease} {k : Nat} {l : Lease} (h : ls[k]? = some l) (hu : underB p l.Path = false) : cntU p (ls.take (k + 1)) = cntU p (ls.take k) := by unfold cntU; rw [take_snoc h, List.filter_append, List.length_append]; simp [hu]
theorem cntU_all {p : ByteArray} {ls : List Lease} {k : Nat} (h : ls.length ≤ k) : cntU p ls = cntU p (ls.take k) := by rw [List.take_of_length_le h]
theorem countU_bad {ls : List Lease} {p : ByteArray} (h : bookOk ls = false) : countU ls p = -1 := by unfold countU; rw [h]; rfl
theorem countU_path {ls : List Lease} {p : ByteArray} (h : pathOk p = false) : countU ls p = -1 := by unfold countU; rw [h, Bool.and_false]
theorem countU_ok {ls : List Lease} {p : ByteArray} (h : bookOk ls = true) (hp : pathOk p = true) : countU ls p = ((cntU p ls : Nat) : Int) := by unfold countU; rw [h, hp]; rfl
theorem own_grownU {w w' : World} {base : Nat} {e : TypeId} {size n : Nat} {v : Value} {xs : List Value} {row : Option Nat} (h : w.ownsRow base e size v n xs) (hg : w.grownBy w' row) (hne : ∀ g, v.ownBlock = some g → row ≠ some g) : w'.ownsRow base e size v n xs := by
  refine ⟨h.1, ?_⟩
  rcases h.2 with hn | ⟨g, cap, cur, rfl, h0, hgg, rest⟩
  · exact .inl hn
  · exact .inr ⟨g, cap, cur, rfl, h0, by rw [hg.block g (Array.getElem?_eq_some_iff.1 hgg).1 (fun e => hne g rfl e.symm)]; exact hgg, rest⟩
set_option maxHeartbeats 800000 in
theorem impl_CountUnder_1 (l : Lease) (p : Addr) (pre : ByteArray) (w : World) (hc : w.cell? p = some (.string pre)) (hs : l.Path.size ≤ 9223372036854775807) (hp : pre.size ≤ 9223372036854775807) (hmx : MaxLenInt w) :
    Calls Tryd.prog 44 #[.agg #[.int .i64 l.Id, .int .i64 l.Token, .string l.Path, .int .i64 l.Made, .int .i64 l.Ends, .int .i64 l.Limit], .pointer (some p)] w fun e w' => e = .returned (.bool (underB pre l.Path)) ∧ Below w.heap.size w w' := by
  have hlt := World.block_lt_of_cell? w p hc
  have hc' : (w.alloc (.cells #[.int .i64 l.Id, .int .i64 l.Token, .string l.Path, .int .i64 l.Made, .int .i64 l.Ends, .int .i64 l.Limit] 26)).cell? p = some (.string pre) := by rw [World.cell?_alloc_lt _ _ _ hlt]; exact hc
  have HM := Lib.hid (fun (w' : World) (hb : Below w.heap.size w w') => hmx.keep hb)
  have HU := Lib.hid (fun w' (h : MaxLenInt w') => impl_UnderPath pre l.Path w' hp hs h)
  generalize underB pre l.Path = ub at *
  go_enter Tryd.func44, Tryd.ntmps44
  go_wp2_with fail
  refine (HU.out _ (HM.out _ (by (repeat (first | (with_reducible exact Below.refl _ _) | (with_reducible assumption) | ((with_reducible refine Below.setCell ?_ ?_ _); rotate_left; focus (first | omega | (simp; done) | (simp; omega))) | ((with_reducible refine Below.alloc ?_ ?_ _); rotate_left; focus (first | omega | (simp; done) | (simp; omega))) | (with_reducible refine Below.drew ?_) | (with_reducible refine below_drewN ?_ _) | (refine Below.trans ?_ (Below.mono (by with_reducible assumption) (by (first | omega | (simp; done) | (simp; omega)))))))))).mono ?_
  rintro e w1 ⟨rfl, hb1⟩
  go_wp2
  go_ret
  exact ⟨rfl, by (repeat (first | (with_reducible exact Below.refl _ _) | (with_reducible assumption) | ((with_reducible refine Below.setCell ?_ ?_ _); rotate_left; focus (first | omega | (simp; done) | (simp; omega))) | ((with_reducible refine Below.alloc ?_ ?_ _); rotate_left; focus (first | omega | (simp; done) | (simp; omega))) | (with_reducible refine Below.drew ?_) | (with_reducible refine below_drewN ?_ _) | (refine Below.trans ?_ (Below.mono (by with_reducible assumption) (by (first | omega | (simp; done) | (simp; omega)))))))⟩
set_option maxHeartbeats 6400000 in
theorem impl_dropLeases_U (A : Option Addr) (c : Nat) (ls : List Lease) (p : Addr) (pre : ByteArray) (w : World) (hr : SlRd LeaseR w w.heap.size (.slice A ls.length c) ls) (hml : ls.length ≤ 1048576) (hc : w.cell? p = some (.string pre)) (hp : pre.size ≤ 9223372036854775807) (hmx : MaxLenInt w) :
    Calls Tryd.prog 43 #[.agg #[.slice A ls.length c], .func (.func 44) #[] #[.pointer (some p)]] w fun e w' => ∃ (A2 : Option Addr) (n2 c2 : Nat) (A1 : Option Addr) (c1 : Nat), e = .returned (.tuple #[.agg #[.slice A2 n2 c2], .slice A1 (cntU pre ls) c1]) ∧ Below w.heap.size w w' := by
  have HM := Lib.hid (fun (w' : World) (hb : Below w.heap.size w w') => hmx.keep hb)
  have HC := Lib.hid (fun (w' : World) (hb : Below w.heap.size w w') => (hb.cell (World.block_lt_of_cell? w p hc)).trans hc)
  obtain ⟨i0, hi0, hz0, hz1', hz2'⟩ := info_parts info_Lease
  generalize hn : ls.length = n at *
  have Hn := Lib.hid hn
  clear hn hc hmx
  go_enter Tryd.func43, Tryd.ntmps43
  go_wp2
  go_loopw [7, 13] (fun gl i wr => ∃ (k n1 n2 : Nat) (A1 A2 : Option Addr) (c1 c2 : Nat) (xs1 xs2 : List Value), k ≤ n ∧ n1 ≤ k ∧ n2 ≤ k ∧ i = .int .i64 k ∧ gl = .slice A1 n1 c1 ∧ Below w.heap.size w wr ∧ w.heap.size + 3 ≤ wr.heap.size ∧ Blk wr w.heap.size 36 #[.slice A n c] ∧ Blk wr (w.heap.size + 1) 36 #[.slice none 0 0] ∧ Blk wr (w.heap.size + 2) 36 #[.slice A2 n2 c2] ∧ Hid (wr.ownsRow (w.heap.size + 3) 26 6 (.slice A1 n1 c1) n1 xs1) ∧ Hid (wr.ownsRow (w.heap.size + 3) 26 6 (.slice A2 n2 c2) n2 xs2) ∧ Hid (∀ g, (Value.slice A1 n1 c1).ownBlock = some g → (Value.slice A2 n2 c2).ownBlock ≠ some g) ∧ Hid (n1 = cntU pre (ls.take k))) (fun _ i _ => n - (intOf i).toNat)
  case atStart => exact ⟨0, 0, 0, none, none, 0, 0, [], [], Nat.zero_le _, Nat.le_refl _, Nat.le_refl _, rfl, rfl, by (repeat (first | (with_reducible exact Below.refl _ _) | (with_reducible assumption) | ((with_reducible refine Below.setCell ?_ ?_ _); rotate_left; focus (first | omega | (simp; done) | (simp; omega))) | ((with_reducible refine Below.alloc ?_ ?_ _); rotate_left; focus (first | omega | (simp; done) | (simp; omega))) | (with_reducible refine Below.drew ?_) | (with_reducible refine below_drewN ?_ _) | (refine Below.trans ?_ (Below.mono (by with_reducible assumption) (by (first | omega | (simp; done) | (simp; omega))))))), by simp, by (repeat (first | (with_reducible assumption) | ((with_reducible refine Blk.new' ?_); focus (simp; done)) | (with_reducible refine Blk.alloc ?_ _) | (with_reducible refine Blk.drew ?_) | (with_reducible refine Blk.drewN ?_ _) | ((with_reducible refine Blk.far ?_ ?_ _); rotate_left; focus (first | omega | (simp; done) | (simp; omega))) | (refine Blk.keep ?_ (by with_reducible assumption)) | (refine Blk.below ?_ (by with_reducible assumption) (by (first | omega | (simp; done) | (simp; omega)))))), by (repeat (first | (with_reducible assumption) | ((with_reducible refine Blk.new' ?_); focus (simp; done)) | (with_reducible refine Blk.alloc ?_ _) | (with_reducible refine Blk.drew ?_) | (with_reducible refine Blk.drewN ?_ _) | ((with_reducible refine Blk.far ?_ ?_ _); rotate_left; focus (first | omega | (simp; done) | (simp; omega))) | (refine Blk.keep ?_ (by with_reducible assumption)) | (refine Blk.below ?_ (by with_reducible assumption) (by (first | omega | (simp; done) | (simp; omega)))))), by (repeat (first | (with_reducible assumption) | ((with_reducible refine Blk.new' ?_); focus (simp; done)) | (with_reducible refine Blk.alloc ?_ _) | (with_reducible refine Blk.drew ?_) | (with_reducible refine Blk.drewN ?_ _) | ((with_reducible refine Blk.far ?_ ?_ _); rotate_left; focus (first | omega | (simp; done) | (simp; omega))) | (refine Blk.keep ?_ (by with_reducible assumption)) | (refine Blk.below ?_ (by with_reducible assumption) (by (first | omega | (simp; done) | (simp; omega)))))), Lib.hid (World.ownsRow_nil _ _ _ _), Lib.hid (World.ownsRow_nil _ _ _ _), Lib.hid (fun g hg => by simp [Value.ownBlock] at hg), Lib.hid rfl⟩
  case round =>
    obtain ⟨k, n1, n2, A1, A2, c1, c2, xs1, xs2, hk, hn1, hn2, rfl, rfl, hb, hzr, BK0, BK1, BO, H1, H2, HAp, HCn⟩ := hrel
    have hc0 := BK0.cell; have hc1 := BK1.cell; have hf1 := BK1.frozen; have hcO := BO.cell; have hfO := BO.frozen; have hlO := BO.lt
    by_cases hlt : k < n
    rotate_left
    · obtain rfl : k = n := by omega
      have HX : Hid (n1 = cntU pre ls) := Lib.hid (by rw [HCn.out]; exact (cntU_all (by rw [Hn.out]; exact Nat.le_refl _)).symm)
      go_wp2
      refine bodyPost_ret (v := .tuple #[.agg #[.slice A2 n2 c2], .slice A1 n1 c1]) (by simp [results, Tryd.results43, go_sem, hc1, hf1]) rfl ⟨A2, n2, c2, A1, c1, by rw [← HX.out], by (repeat (first | (with_reducible exact Below.refl _ _) | (with_reducible assumption) | ((with_reducible refine Below.setCell ?_ ?_ _); rotate_left; focus (first | omega | (simp; done) | (simp; omega))) | ((with_reducible refine Below.alloc ?_ ?_ _); rotate_left; focus (first | omega | (simp; done) | (simp; omega))) | (with_reducible refine Below.drew ?_) | (with_reducible refine below_drewN ?_ _) | (refine Below.trans ?_ (Below.mono (by with_reducible assumption) (by (first | omega | (simp; done) | (simp; omega)))))))⟩
    have hlx : k < ls.length := by rw [Hn.out]; exact hlt
    have HG := Lib.hid (List.getElem?_eq_getElem hlx)
    generalize ls[k]'hlx = l at HG
    clear hlx
    obtain ⟨b, off, rfl, hab, hps, hq0, hq1, hq2, hq3, hq4, hq5⟩ := lease_elem (hr.below hb (Nat.le_refl _)) HG.out
    have hcp := HC.out _ hb
    have hzb := hb.size
    go_wp2_with fail
    refine (impl_CountUnder_1 l p pre _ (HC.out _ (by (repeat (first | (with_reducible exact Below.refl _ _) | (with_reducible assumption) | ((with_reducible refine Below.setCell ?_ ?_ _); rotate_left; focus (first | omega | (simp; done) | (simp; omega))) | ((with_reducible refine Below.alloc ?_ ?_ _); rotate_left; focus (first | omega | (simp; done) | (simp; omega))) | (with_reducible refine Below.drew ?_) | (with_reducible refine below_drewN ?_ _) | (refine Below.trans ?_ (Below.mono (by with_reducible assumption) (by (first | omega | (simp; done) | (simp; omega))))))))) hps hp (HM.out _ (by (repeat (first | (with_reducible exact Below.refl _ _) | (with_reducible assumption) | ((with_reducible refine Below.setCell ?_ ?_ _); rotate_left; focus (first | omega | (simp; done) | (simp; omega))) | ((with_reducible refine Below.alloc ?_ ?_ _); rotate_left; focus (first | omega | (simp; done) | (simp; omega))) | (with_reducible refine Below.drew ?_) | (with_reducible refine below_drewN ?_ _) | (refine Below.trans ?_ (Below.mono (by with_reducible assumption) (by (first | omega | (simp; done) | (simp; omega)))))))))).mono ?_
    rintro e w3 ⟨rfl, hb3⟩
    have hz3 := hb3.size
    try simp at hz3
    have BL : Blk w3 wr.heap.size 26 #[.int .i64 l.Id, .int .i64 l.Token, .string l.Path, .int .i64 l.Made, .int .i64 l.Ends, .int .i64 l.Limit] := by (repeat (first | (with_reducible assumption) | ((with_reducible refine Blk.new' ?_); focus (simp; done)) | (with_reducible refine Blk.alloc ?_ _) | (with_reducible refine Blk.drew ?_) | (with_reducible refine Blk.drewN ?_ _) | ((with_reducible refine Blk.far ?_ ?_ _); rotate_left; focus (first | omega | (simp; done) | (simp; omega))) | (refine Blk.keep ?_ (by with_reducible assumption)) | (refine Blk.below ?_ (by with_reducible assumption) (by (first | omega | (simp; done) | (simp; omega))))))
    have hcL := BL.cell
    replace BK0 : Blk w3 w.heap.size 36 #[.slice (some ⟨b, off, none⟩) n c] := by (repeat (first | (with_reducible assumption) | ((with_reducible refine Blk.new' ?_); focus (simp; done)) | (with_reducible refine Blk.alloc ?_ _) | (with_reducible refine Blk.drew ?_) | (with_reducible refine Blk.drewN ?_ _) | ((with_reducible refine Blk.far ?_ ?_ _); rotate_left; focus (first | omega | (simp; done) | (simp; omega))) | (refine Blk.keep ?_ (by with_reducible assumption)) | (refine Blk.below ?_ (by with_reducible assumption) (by (first | omega | (simp; done) | (simp; omega))))))
    replace BK1 : Blk w3 (w.heap.size + 1) 36 #[.slice none 0 0] := by (repeat (first | (with_reducible assumption) | ((with_reducible refine Blk.new' ?_); focus (simp; done)) | (with_reducible refine Blk.alloc ?_ _) | (with_reducible refine Blk.drew ?_) | (with_reducible refine Blk.drewN ?_ _) | ((with_reducible refine Blk.far ?_ ?_ _); rotate_left; focus (first | omega | (simp; done) | (simp; omega))) | (refine Blk.keep ?_ (by with_reducible assumption)) | (refine Blk.below ?_ (by with_reducible assumption) (by (first | omega | (simp; done) | (simp; omega))))))
    replace BO : Blk w3 (w.heap.size + 2) 36 #[.slice A2 n2 c2] := by (repeat (first | (with_reducible assumption) | ((with_reducible refine Blk.new' ?_); focus (simp; done)) | (with_reducible refine Blk.alloc ?_ _) | (with_reducible refine Blk.drew ?_) | (with_reducible refine Blk.drewN ?_ _) | ((with_reducible refine Blk.far ?_ ?_ _); rotate_left; focus (first | omega | (simp; done) | (simp; omega))) | (refine Blk.keep ?_ (by with_reducible assumption)) | (refine Blk.below ?_ (by with_reducible assumption) (by (first | omega | (simp; done) | (simp; omega))))))
    replace hc0 := BK0.cell; replace hc1 := BK1.cell; replace hf1 := BK1.frozen; replace hcO := BO.cell; replace hfO := BO.frozen; replace hlO := BO.lt
    have h1 := own_below (H1.out.alloc (.cells #[.int .i64 l.Id, .int .i64 l.Token, .string l.Path, .int .i64 l.Made, .int .i64 l.Ends, .int .i64 l.Limit] 26)) hb3
    have h2 := own_below (H2.out.alloc (.cells #[.int .i64 l.Id, .int .i64 l.Token, .string l.Path, .int .i64 l.Made, .int .i64 l.Ends, .int .i64 l.Limit] 26)) hb3
    have h1lt : ∀ q, (Value.slice A1 n1 c1).ownBlock = some q → w.heap.size + 3 ≤ q ∧ q < w3.heap.size := fun q e => h1.lt q e
    have h2lt : ∀ q, (Value.slice A2 n2 c2).ownBlock = some q → w.heap.size + 3 ≤ q ∧ q < w3.heap.size := fun q e => h2.lt q e
    have hb' : Below w.heap.size w w3 := by (repeat (first | (with_reducible exact Below.refl _ _) | (with_reducible assumption) | ((with_reducible refine Below.setCell ?_ ?_ _); rotate_left; focus (first | omega | (simp; done) | (simp; omega))) | ((with_reducible refine Below.alloc ?_ ?_ _); rotate_left; focus (first | omega | (simp; done) | (simp; omega))) | (with_reducible refine Below.drew ?_) | (with_reducible refine below_drewN ?_ _) | (refine Below.trans ?_ (Below.mono (by with_reducible assumption) (by (first | omega | (simp; done) | (simp; omega)))))))
    clear hb hb3 H1 H2 hcp
    cases hu : underB pre l.Path
    rotate_left
    · have HU := Lib.hid (cntU_yes HG.out hu)
      clear hu
      go_wp2_with (first | (at_builtin; go_loud (refine wpList_append_own_at _ rfl _ _ 34 rfl (w.heap.size + 3) 26 i0 _ 6 56 Tryd.underlying34 hi0 hz0 hz1' hz2' rfl (by decide) _ _ _ rfl (h1.alloc _) ⟨w3.heap.size, 0, none⟩ 1 1 [.int .i64 l.Id, .int .i64 l.Token, .string l.Path, .int .i64 l.Made, .int .i64 l.Ends, .int .i64 l.Limit] rfl rfl ?c1 ?c2 ?c3 ?c4 ?c5 ?_; (case c1 => exact (World.news_of_block (cs := #[.int .i64 l.Id, .int .i64 l.Token, .string l.Path, .int .i64 l.Made, .int .i64 l.Ends, .int .i64 l.Limit]) (t := 26) (fr := (0, 0)) (heap_alloc_new w3 _))); (case c2 => simp [Value.oneCell']); (case c3 => (simp only [maxLen]; omega)); (case c4 => omega); (case c5 => (simp; omega)); intro v' wA hown1 hgrow hnil hat; obtain ⟨gg, cap, rfl, hg1, hg2⟩ := hown1.form (by omega))))
      go_roundw
      case rel =>
        have hzg := hgrow.size
        have hzg2 : w3.heap.size + 1 ≤ wA.heap.size := by simpa using hzg
        have hbA : Below w.heap.size w (w3.alloc (.cells #[.int .i64 l.Id, .int .i64 l.Token, .string l.Path, .int .i64 l.Made, .int .i64 l.Ends, .int .i64 l.Limit] 26)) := Below.alloc hb' (by omega) _
        have hneI : ∀ q, q < w.heap.size + 3 → some q ≠ (Value.slice A1 n1 c1).ownBlock := fun q hq e => by have := (h1lt _ e.symm).1; omega
        have hat2 : (Value.slice A1 n1 c1).ownBlock = some gg ∨ gg = w3.heap.size + 1 := by
            rcases hat with h | h
            · have h2 : (Value.slice A1 n1 c1).ownBlock = (Value.slice (some ⟨gg, 0, none⟩) (n1 + 1) cap).ownBlock := h.symm
              exact Or.inl (by rw [h2]; simp [Value.ownBlock])
            · exact Or.inr (by simpa [Value.ownBlock] using h)
        refine ⟨k + 1, n1 + 1, n2, some ⟨gg, 0, none⟩, A2, cap, c2, xs1 ++ [.int .i64 l.Id, .int .i64 l.Token, .string l.Path, .int .i64 l.Made, .int .i64 l.Ends, .int .i64 l.Limit], xs2, by omega, by omega, by omega, by go_num, rfl, ?_, by omega, ?_, ?_, ?_, Lib.hid hown1, Lib.hid ?_, Lib.hid ?_, Lib.hid (by rw [HU.out, HCn.out])⟩
        · exact Below.grown hbA hgrow (by simp; omega) (fun q e => by have := h1lt q e; omega)
        · exact (BK0.alloc _).grown hgrow (hneI _ (by omega))
        · exact (BK1.alloc _).grown hgrow (hneI _ (by omega))
        · exact (BO.alloc _).grown hgrow (hneI _ (by omega))
        · exact own_grownU (h2.alloc _) hgrow (fun q hq e => HAp.out q e hq)
        · intro q hq e
          have e2 : gg = q := by simpa [Value.ownBlock] using hq
          rcases hat2 with h | h
          · exact HAp.out q (by rw [h, e2]) e
          · have := (h2lt q e).2; omega
      case measure => simp [intOf]; omega
    · have HU := Lib.hid (cntU_no HG.out hu)
      clear hu
      go_wp2_with (first | (at_builtin; go_loud (refine wpList_append_own_at _ rfl _ _ 34 rfl (w.heap.size + 3) 26 i0 _ 6 56 Tryd.underlying34 hi0 hz0 hz1' hz2' rfl (by decide) _ _ _ rfl (h2.alloc _) ⟨w3.heap.size, 0, none⟩ 1 1 [.int .i64 l.Id, .int .i64 l.Token, .string l.Path, .int .i64 l.Made, .int .i64 l.Ends, .int .i64 l.Limit] rfl rfl ?c1 ?c2 ?c3 ?c4 ?c5 ?_; (case c1 => exact (World.news_of_block (cs := #[.int .i64 l.Id, .int .i64 l.Token, .string l.Path, .int .i64 l.Made, .int .i64 l.Ends, .int .i64 l.Limit]) (t := 26) (fr := (0, 0)) (heap_alloc_new w3 _))); (case c2 => simp [Value.oneCell']); (case c3 => (simp only [maxLen]; omega)); (case c4 => omega); (case c5 => (simp; omega)); intro v' wA hown1 hgrow hnil hat; obtain ⟨gg, cap, rfl, hg1, hg2⟩ := hown1.form (by omega); have BOA := ((BO.alloc (.cells #[.int .i64 l.Id, .int .i64 l.Token, .string l.Path, .int .i64 l.Made, .int .i64 l.Ends, .int .i64 l.Limit] 26)).grown hgrow (fun e => by have := (h2lt _ e.symm).1; omega)); have hcOA := BOA.cell; have hfOA := BOA.frozen)))
      go_roundw
      case rel =>
        have hzg := hgrow.size
        have hzg2 : w3.heap.size + 1 ≤ wA.heap.size := by simpa using hzg
        have hbA : Below w.heap.size w (w3.alloc (.cells #[.int .i64 l.Id, .int .i64 l.Token, .string l.Path, .int .i64 l.Made, .int .i64 l.Ends, .int .i64 l.Limit] 26)) := Below.alloc hb' (by omega) _
        have hneI : ∀ q, q < w.heap.size + 3 → some q ≠ (Value.slice A2 n2 c2).ownBlock := fun q hq e => by have := (h2lt _ e.symm).1; omega
        have hat2 : (Value.slice A2 n2 c2).ownBlock = some gg ∨ gg = w3.heap.size + 1 := by
            rcases hat with h | h
            · have h2 : (Value.slice A2 n2 c2).ownBlock = (Value.slice (some ⟨gg, 0, none⟩) (n2 + 1) cap).ownBlock := h.symm
              exact Or.inl (by rw [h2]; simp [Value.ownBlock])
            · exact Or.inr (by simpa [Value.ownBlock] using h)
        refine ⟨k + 1, n1, n2 + 1, A1, some ⟨gg, 0, none⟩, c1, cap, xs1, xs2 ++ [.int .i64 l.Id, .int .i64 l.Token, .string l.Path, .int .i64 l.Made, .int .i64 l.Ends, .int .i64 l.Limit], by omega, by omega, by omega, by go_num, rfl, ?_, by simp; omega, ?_, ?_, ?_, Lib.hid ?_, Lib.hid ?_, Lib.hid ?_, Lib.hid (by rw [HU.out, HCn.out])⟩
        · exact (Below.grown hbA hgrow (by simp; omega) (fun q e => by have := h2lt q e; omega)).setCell (by simp; try omega) _
        · exact ((BK0.alloc _).grown hgrow (hneI _ (by omega))).far (by simp; try omega) _
        · exact ((BK1.alloc _).grown hgrow (hneI _ (by omega))).far (by simp; try omega) _
        · have hB := BOA.set_ 0 (.slice (some ⟨gg, 0, none⟩) (n2 + 1) cap)
          simpa using hB
        · exact own_setCell (own_grownU (h1.alloc _) hgrow (fun q hq e => HAp.out q hq e)) (by simp) _
        · exact own_setCell hown1 (by simp) _
        · intro q hq e
          have e2 : gg = q := by simpa [Value.ownBlock] using e
          rcases hat2 with h | h
          · exact HAp.out q hq (by rw [h, e2])
          · have := (h1lt q hq).2; omega
      case measure => simp [intOf]; omega
set_option maxHeartbeats 3200000 in
theorem impl_CountUnderL (cs : List Value) (f : Book) (pre : ByteArray) (w : World) (h : BookR.Rd w w.heap.size cs f) (hm : BookR.sz f ≤ 1048576) (hp : pre.size ≤ 9223372036854775807) (hmx : MaxLenInt w) :
    Calls Tryd.prog 24 #[.agg cs.toArray, .string pre] w fun e w' => e = .returned (.int .i64 (countU f.Leases pre)) ∧ Below w.heap.size w w' := by
  obtain ⟨v0, rfl, q0⟩ := rd_Book (_root_.id h)
  obtain ⟨A0, c0, rfl⟩ := q0.form
  have HM := Lib.hid (fun (w' : World) (hb : Below w.heap.size w w') => hmx.keep hb)
  have HOk := Lib.hid (fun (w' : World) (h : BookR.Rd w' w'.heap.size [.slice A0 f.Leases.length c0] f) (hx : MaxLenInt w') => impl_isBookL _ f w' h hm hx)
  have HPa := Lib.hid (fun (w' : World) (hx : MaxLenInt w') => impl_isPath pre w' hp hx)
  have HR := Lib.hid (fun (w' : World) (hb : Below w.heap.size w w') (hz : w.heap.size ≤ w'.heap.size) => BookR.rd_keep h hb hz)
  have hml := book_len hm
  have HRs := Lib.hid (fun (w' : World) (hb : Below w.heap.size w w') (hz : w.heap.size ≤ w'.heap.size) => q0.keep hb hz)
  clear h q0 hm hmx
  generalize hT : f.Leases = ls at *
  cases hok : bookOk ls
  · have HD := Lib.hid (countU_bad (p := pre) hok)
    rw [hok] at HOk
    clear hok
    go_enter Tryd.func24, Tryd.ntmps24
    go_wp2_with fail
    refine (HOk.out _ (HR.out _ (by (repeat (first | (with_reducible exact Below.refl _ _) | (with_reducible assumption) | ((with_reducible refine Below.setCell ?_ ?_ _); rotate_left; focus (first | omega | (simp; done) | (simp; omega))) | ((with_reducible refine Below.alloc ?_ ?_ _); rotate_left; focus (first | omega | (simp; done) | (simp; omega))) | (with_reducible refine Below.drew ?_) | (with_reducible refine below_drewN ?_ _) | (refine Below.trans ?_ (Below.mono (by with_reducible assumption) (by (first | omega | (simp; done) | (simp; omega)))))))) (by first | omega | (simp; done) | (simp; omega))) (HM.out _ (by (repeat (first | (with_reducible exact Below.refl _ _) | (with_reducible assumption) | ((with_reducible refine Below.setCell ?_ ?_ _); rotate_left; focus (first | omega | (simp; done) | (simp; omega))) | ((with_reducible refine Below.alloc ?_ ?_ _); rotate_left; focus (first | omega | (simp; done) | (simp; omega))) | (with_reducible refine Below.drew ?_) | (with_reducible refine below_drewN ?_ _) | (refine Below.trans ?_ (Below.mono (by with_reducible assumption) (by (first | omega | (simp; done) | (simp; omega)))))))))).mono ?_
    rintro e w1 ⟨rfl, hb1⟩
    have hz1 := hb1.size; try simp at hz1
    go_wp2
    go_ret
    exact ⟨ret_int (by rw [HD.out]), by (repeat (first | (with_reducible exact Below.refl _ _) | (with_reducible assumption) | ((with_reducible refine Below.setCell ?_ ?_ _); rotate_left; focus (first | omega | (simp; done) | (simp; omega))) | ((with_reducible refine Below.alloc ?_ ?_ _); rotate_left; focus (first | omega | (simp; done) | (simp; omega))) | (with_reducible refine Below.drew ?_) | (with_reducible refine below_drewN ?_ _) | (refine Below.trans ?_ (Below.mono (by with_reducible assumption) (by (first | omega | (simp; done) | (simp; omega)))))))⟩
  cases hpa : pathOk pre
  · have HD := Lib.hid (countU_path (ls := ls) hpa)
    rw [hok] at HOk
    rw [hpa] at HPa
    clear hok hpa
    go_enter Tryd.func24, Tryd.ntmps24
    go_wp2_with fail
    refine (HOk.out _ (HR.out _ (by (repeat (first | (with_reducible exact Below.refl _ _) | (with_reducible assumption) | ((with_reducible refine Below.setCell ?_ ?_ _); rotate_left; focus (first | omega | (simp; done) | (simp; omega))) | ((with_reducible refine Below.alloc ?_ ?_ _); rotate_left; focus (first | omega | (simp; done) | (simp; omega))) | (with_reducible refine Below.drew ?_) | (with_reducible refine below_drewN ?_ _) | (refine Below.trans ?_ (Below.mono (by with_reducible assumption) (by (first | omega | (simp; done) | (simp; omega)))))))) (by first | omega | (simp; done) | (simp; omega))) (HM.out _ (by (repeat (first | (with_reducible exact Below.refl _ _) | (with_reducible assumption) | ((with_reducible refine Below.setCell ?_ ?_ _); rotate_left; focus (first | omega | (simp; done) | (simp; omega))) | ((with_reducible refine Below.alloc ?_ ?_ _); rotate_left; focus (first | omega | (simp; done) | (simp; omega))) | (with_reducible refine Below.drew ?_) | (with_reducible refine below_drewN ?_ _) | (refine Below.trans ?_ (Below.mono (by with_reducible assumption) (by (first | omega | (simp; done) | (simp; omega)))))))))).mono ?_
    rintro e w1 ⟨rfl, hb1⟩
    have hz1 := hb1.size; try simp at hz1
    have BK0 : Blk w1 w.heap.size 36 #[.slice A0 ls.length c0] := by (repeat (first | (with_reducible assumption) | ((with_reducible refine Blk.new' ?_); focus (simp; done)) | (with_reducible refine Blk.alloc ?_ _) | (with_reducible refine Blk.drew ?_) | (with_reducible refine Blk.drewN ?_ _) | ((with_reducible refine Blk.far ?_ ?_ _); rotate_left; focus (first | omega | (simp; done) | (simp; omega))) | (refine Blk.keep ?_ (by with_reducible assumption)) | (refine Blk.below ?_ (by with_reducible assumption) (by (first | omega | (simp; done) | (simp; omega))))))
    have BKP : Blk w1 (w.heap.size + 1) 9 #[.string pre] := by (repeat (first | (with_reducible assumption) | ((with_reducible refine Blk.new' ?_); focus (simp; done)) | (with_reducible refine Blk.alloc ?_ _) | (with_reducible refine Blk.drew ?_) | (with_reducible refine Blk.drewN ?_ _) | ((with_reducible refine Blk.far ?_ ?_ _); rotate_left; focus (first | omega | (simp; done) | (simp; omega))) | (refine Blk.keep ?_ (by with_reducible assumption)) | (refine Blk.below ?_ (by with_reducible assumption) (by (first | omega | (simp; done) | (simp; omega))))))
    have hc0 := BK0.cell; have hcP := BKP.cell
    go_wp2_with fail
    refine (HPa.out _ (HM.out _ (by (repeat (first | (with_reducible exact Below.refl _ _) | (with_reducible assumption) | ((with_reducible refine Below.setCell ?_ ?_ _); rotate_left; focus (first | omega | (simp; done) | (simp; omega))) | ((with_reducible refine Below.alloc ?_ ?_ _); rotate_left; focus (first | omega | (simp; done) | (simp; omega))) | (with_reducible refine Below.drew ?_) | (with_reducible refine below_drewN ?_ _) | (refine Below.trans ?_ (Below.mono (by with_reducible assumption) (by (first | omega | (simp; done) | (simp; omega)))))))))).mono ?_
    rintro e w2 ⟨rfl, hb2⟩
    have hz2 := hb2.size; try simp at hz2
    go_wp2
    go_ret
    exact ⟨ret_int (by rw [HD.out]), by (repeat (first | (with_reducible exact Below.refl _ _) | (with_reducible assumption) | ((with_reducible refine Below.setCell ?_ ?_ _); rotate_left; focus (first | omega | (simp; done) | (simp; omega))) | ((with_reducible refine Below.alloc ?_ ?_ _); rotate_left; focus (first | omega | (simp; done) | (simp; omega))) | (with_reducible refine Below.drew ?_) | (with_reducible refine below_drewN ?_ _) | (refine Below.trans ?_ (Below.mono (by with_reducible assumption) (by (first | omega | (simp; done) | (simp; omega)))))))⟩
  · have HD := Lib.hid (countU_ok hok hpa)
    rw [hok] at HOk
    rw [hpa] at HPa
    clear hok hpa
    go_enter Tryd.func24, Tryd.ntmps24
    go_wp2_with fail
    refine (HOk.out _ (HR.out _ (by (repeat (first | (with_reducible exact Below.refl _ _) | (with_reducible assumption) | ((with_reducible refine Below.setCell ?_ ?_ _); rotate_left; focus (first | omega | (simp; done) | (simp; omega))) | ((with_reducible refine Below.alloc ?_ ?_ _); rotate_left; focus (first | omega | (simp; done) | (simp; omega))) | (with_reducible refine Below.drew ?_) | (with_reducible refine below_drewN ?_ _) | (refine Below.trans ?_ (Below.mono (by with_reducible assumption) (by (first | omega | (simp; done) | (simp; omega)))))))) (by first | omega | (simp; done) | (simp; omega))) (HM.out _ (by (repeat (first | (with_reducible exact Below.refl _ _) | (with_reducible assumption) | ((with_reducible refine Below.setCell ?_ ?_ _); rotate_left; focus (first | omega | (simp; done) | (simp; omega))) | ((with_reducible refine Below.alloc ?_ ?_ _); rotate_left; focus (first | omega | (simp; done) | (simp; omega))) | (with_reducible refine Below.drew ?_) | (with_reducible refine below_drewN ?_ _) | (refine Below.trans ?_ (Below.mono (by with_reducible assumption) (by (first | omega | (simp; done) | (simp; omega)))))))))).mono ?_
    rintro e w1 ⟨rfl, hb1⟩
    have hz1 := hb1.size; try simp at hz1
    have BK0 : Blk w1 w.heap.size 36 #[.slice A0 ls.length c0] := by (repeat (first | (with_reducible assumption) | ((with_reducible refine Blk.new' ?_); focus (simp; done)) | (with_reducible refine Blk.alloc ?_ _) | (with_reducible refine Blk.drew ?_) | (with_reducible refine Blk.drewN ?_ _) | ((with_reducible refine Blk.far ?_ ?_ _); rotate_left; focus (first | omega | (simp; done) | (simp; omega))) | (refine Blk.keep ?_ (by with_reducible assumption)) | (refine Blk.below ?_ (by with_reducible assumption) (by (first | omega | (simp; done) | (simp; omega))))))
    have BKP : Blk w1 (w.heap.size + 1) 9 #[.string pre] := by (repeat (first | (with_reducible assumption) | ((with_reducible refine Blk.new' ?_); focus (simp; done)) | (with_reducible refine Blk.alloc ?_ _) | (with_reducible refine Blk.drew ?_) | (with_reducible refine Blk.drewN ?_ _) | ((with_reducible refine Blk.far ?_ ?_ _); rotate_left; focus (first | omega | (simp; done) | (simp; omega))) | (refine Blk.keep ?_ (by with_reducible assumption)) | (refine Blk.below ?_ (by with_reducible assumption) (by (first | omega | (simp; done) | (simp; omega))))))
    have hc0 := BK0.cell; have hcP := BKP.cell
    go_wp2_with fail
    refine (HPa.out _ (HM.out _ (by (repeat (first | (with_reducible exact Below.refl _ _) | (with_reducible assumption) | ((with_reducible refine Below.setCell ?_ ?_ _); rotate_left; focus (first | omega | (simp; done) | (simp; omega))) | ((with_reducible refine Below.alloc ?_ ?_ _); rotate_left; focus (first | omega | (simp; done) | (simp; omega))) | (with_reducible refine Below.drew ?_) | (with_reducible refine below_drewN ?_ _) | (refine Below.trans ?_ (Below.mono (by with_reducible assumption) (by (first | omega | (simp; done) | (simp; omega)))))))))).mono ?_
    rintro e w2 ⟨rfl, hb2⟩
    have hz2 := hb2.size; try simp at hz2
    replace BK0 : Blk w2 w.heap.size 36 #[.slice A0 ls.length c0] := by (repeat (first | (with_reducible assumption) | ((with_reducible refine Blk.new' ?_); focus (simp; done)) | (with_reducible refine Blk.alloc ?_ _) | (with_reducible refine Blk.drew ?_) | (with_reducible refine Blk.drewN ?_ _) | ((with_reducible refine Blk.far ?_ ?_ _); rotate_left; focus (first | omega | (simp; done) | (simp; omega))) | (refine Blk.keep ?_ (by with_reducible assumption)) | (refine Blk.below ?_ (by with_reducible assumption) (by (first | omega | (simp; done) | (simp; omega))))))
    replace BKP : Blk w2 (w.heap.size + 1) 9 #[.string pre] := by (repeat (first | (with_reducible assumption) | ((with_reducible refine Blk.new' ?_); focus (simp; done)) | (with_reducible refine Blk.alloc ?_ _) | (with_reducible refine Blk.drew ?_) | (with_reducible refine Blk.drewN ?_ _) | ((with_reducible refine Blk.far ?_ ?_ _); rotate_left; focus (first | omega | (simp; done) | (simp; omega))) | (refine Blk.keep ?_ (by with_reducible assumption)) | (refine Blk.below ?_ (by with_reducible assumption) (by (first | omega | (simp; done) | (simp; omega))))))
    replace hc0 := BK0.cell; replace hcP := BKP.cell
    go_wp2_with fail
    refine (impl_dropLeases_U A0 c0 ls ⟨w.heap.size + 1, 0, none⟩ pre _ (HRs.out _ (by (repeat (first | (with_reducible exact Below.refl _ _) | (with_reducible assumption) | ((with_reducible refine Below.setCell ?_ ?_ _); rotate_left; focus (first | omega | (simp; done) | (simp; omega))) | ((with_reducible refine Below.alloc ?_ ?_ _); rotate_left; focus (first | omega | (simp; done) | (simp; omega))) | (with_reducible refine Below.drew ?_) | (with_reducible refine below_drewN ?_ _) | (refine Below.trans ?_ (Below.mono (by with_reducible assumption) (by (first | omega | (simp; done) | (simp; omega)))))))) (by first | omega | (simp; done) | (simp; omega))) hml (by simpa using hcP 0) hp (HM.out _ (by (repeat (first | (with_reducible exact Below.refl _ _) | (with_reducible assumption) | ((with_reducible refine Below.setCell ?_ ?_ _); rotate_left; focus (first | omega | (simp; done) | (simp; omega))) | ((with_reducible refine Below.alloc ?_ ?_ _); rotate_left; focus (first | omega | (simp; done) | (simp; omega))) | (with_reducible refine Below.drew ?_) | (with_reducible refine below_drewN ?_ _) | (refine Below.trans ?_ (Below.mono (by with_reducible assumption) (by (first | omega | (simp; done) | (simp; omega)))))))))).mono ?_
    rintro e w3 ⟨A2, n2, c2, A1, c1, rfl, hb3⟩
    have hz3 := hb3.size; try simp at hz3
    go_wp2
    go_ret
    exact ⟨ret_int (by rw [HD.out]), by (repeat (first | (with_reducible exact Below.refl _ _) | (with_reducible assumption) | ((with_reducible refine Below.setCell ?_ ?_ _); rotate_left; focus (first | omega | (simp; done) | (simp; omega))) | ((with_reducible refine Below.alloc ?_ ?_ _); rotate_left; focus (first | omega | (simp; done) | (simp; omega))) | (with_reducible refine Below.drew ?_) | (with_reducible refine below_drewN ?_ _) | (refine Below.trans ?_ (Below.mono (by with_reducible assumption) (by (first | omega | (simp; done) | (simp; omega)))))))⟩
set_option maxHeartbeats 6400000 in
theorem spec_DropUnder_ok (A : Option Addr) (c : Nat) (ls : List Lease) (pre : ByteArray) (w : World) (hr : SlRd LeaseR w w.heap.size (.slice A ls.length c) ls) (hml : ls.length ≤ 1048576) (hp : pre.size ≤ 9223372036854775807) (hok : bookOk ls = true) (hpa : pathOk pre = true) :
    Calls Tryd.prog 41 #[.agg #[.slice A ls.length c], .string pre] w fun e w' => ∃ (A2 : Option Addr) (n2 c2 : Nat) (A1 : Option Addr) (c1 : Nat), e = .returned (.tuple #[.agg #[.slice A2 n2 c2], .slice A1 (cntU pre ls) c1]) ∧ Below w.heap.size w w' := by
  have HOk := Lib.hid (fun (w' : World) (h : SlRd LeaseR w' w'.heap.size (.slice A ls.length c) ls) => hok ▸ spec_BookOk A c ls w' h (by omega))
  have HPa := Lib.hid (fun (w' : World) => hpa ▸ spec_PathOk pre w' hp)
  obtain ⟨i0, hi0, hz0, hz1', hz2'⟩ := info_parts info_Lease
  clear hok hpa
  generalize hn : ls.length = n at *
  have Hn := Lib.hid hn
  clear hn
  go_enter Tryd.func41, Tryd.ntmps41
  go_wp2_with fail
  refine (HOk.out _ (hr.keep (by (repeat (first | (with_reducible exact Below.refl _ _) | (with_reducible assumption) | ((with_reducible refine Below.setCell ?_ ?_ _); rotate_left; focus (first | omega | (simp; done) | (simp; omega))) | ((with_reducible refine Below.alloc ?_ ?_ _); rotate_left; focus (first | omega | (simp; done) | (simp; omega))) | (with_reducible refine Below.drew ?_) | (with_reducible refine below_drewN ?_ _) | (refine Below.trans ?_ (Below.mono (by with_reducible assumption) (by (first | omega | (simp; done) | (simp; omega)))))))) (by first | omega | (simp; done) | (simp; omega)))).mono ?_
  rintro e w1 ⟨rfl, hb1⟩
  have hz1 := hb1.size; try simp at hz1
  have BK0 : Blk w1 w.heap.size 36 #[.slice A n c] := by (repeat (first | (with_reducible assumption) | ((with_reducible refine Blk.new' ?_); focus (simp; done)) | (with_reducible refine Blk.alloc ?_ _) | (with_reducible refine Blk.drew ?_) | (with_reducible refine Blk.drewN ?_ _) | ((with_reducible refine Blk.far ?_ ?_ _); rotate_left; focus (first | omega | (simp; done) | (simp; omega))) | (refine Blk.keep ?_ (by with_reducible assumption)) | (refine Blk.below ?_ (by with_reducible assumption) (by (first | omega | (simp; done) | (simp; omega))))))
  have BK1 : Blk w1 (w.heap.size + 1) 36 #[.slice none 0 0] := by (repeat (first | (with_reducible assumption) | ((with_reducible refine Blk.new' ?_); focus (simp; done)) | (with_reducible refine Blk.alloc ?_ _) | (with_reducible refine Blk.drew ?_) | (with_reducible refine Blk.drewN ?_ _) | ((with_reducible refine Blk.far ?_ ?_ _); rotate_left; focus (first | omega | (simp; done) | (simp; omega))) | (refine Blk.keep ?_ (by with_reducible assumption)) | (refine Blk.below ?_ (by with_reducible assumption) (by (first | omega | (simp; done) | (simp; omega))))))
  go_wp2_with fail
  refine (HPa.out _).mono ?_
  rintro e w2 ⟨rfl, hb2⟩
  have hz2 := hb2.size; try simp at hz2
  replace BK0 : Blk w2 w.heap.size 36 #[.slice A n c] := by (repeat (first | (with_reducible assumption) | ((with_reducible refine Blk.new' ?_); focus (simp; done)) | (with_reducible refine Blk.alloc ?_ _) | (with_reducible refine Blk.drew ?_) | (with_reducible refine Blk.drewN ?_ _) | ((with_reducible refine Blk.far ?_ ?_ _); rotate_left; focus (first | omega | (simp; done) | (simp; omega))) | (refine Blk.keep ?_ (by with_reducible assumption)) | (refine Blk.below ?_ (by with_reducible assumption) (by (first | omega | (simp; done) | (simp; omega))))))
  replace BK1 : Blk w2 (w.heap.size + 1) 36 #[.slice none 0 0] := by (repeat (first | (with_reducible assumption) | ((with_reducible refine Blk.new' ?_); focus (simp; done)) | (with_reducible refine Blk.alloc ?_ _) | (with_reducible refine Blk.drew ?_) | (with_reducible refine Blk.drewN ?_ _) | ((with_reducible refine Blk.far ?_ ?_ _); rotate_left; focus (first | omega | (simp; done) | (simp; omega))) | (refine Blk.keep ?_ (by with_reducible assumption)) | (refine Blk.below ?_ (by with_reducible assumption) (by (first | omega | (simp; done) | (simp; omega))))))
  have hbw2 : Below w.heap.size w w2 := by (repeat (first | (with_reducible exact Below.refl _ _) | (with_reducible assumption) | ((with_reducible refine Below.setCell ?_ ?_ _); rotate_left; focus (first | omega | (simp; done) | (simp; omega))) | ((with_reducible refine Below.alloc ?_ ?_ _); rotate_left; focus (first | omega | (simp; done) | (simp; omega))) | (with_reducible refine Below.drew ?_) | (with_reducible refine below_drewN ?_ _) | (refine Below.trans ?_ (Below.mono (by with_reducible assumption) (by (first | omega | (simp; done) | (simp; omega)))))))
  have hzw2 := hbw2.size
  have hl1x := BK1.lt
  have hlit : World.ownsRow _ _ 26 6 _ _ _ := World.ownsRow_lit (size := 6) (w2.alloc (.cells #[.slice none 0 0] 36)) #[] 0 (Nat.le_refl _) (by simp [maxLen]) rfl
  clear hb1 hb2
  go_wp2
  go_loopw [7, 8] (fun gl i wr => ∃ (k n1 n2 : Nat) (A1 A2 : Option Addr) (c1 c2 : Nat) (xs1 xs2 : List Value), k ≤ n ∧ n1 ≤ k ∧ n2 ≤ k ∧ i = .int .i64 k ∧ gl = .slice A1 n1 c1 ∧ Below w.heap.size w wr ∧ w2.heap.size + 1 ≤ wr.heap.size ∧ Blk wr w.heap.size 36 #[.slice A n c] ∧ Blk wr (w.heap.size + 1) 36 #[.slice none 0 0] ∧ Blk wr w2.heap.size 36 #[.slice A2 n2 c2] ∧ Hid (wr.ownsRow (w2.heap.size + 1) 26 6 (.slice A1 n1 c1) n1 xs1) ∧ Hid (wr.ownsRow (w2.heap.size + 1) 26 6 (.slice A2 n2 c2) n2 xs2) ∧ Hid (∀ g, (Value.slice A1 n1 c1).ownBlock = some g → (Value.slice A2 n2 c2).ownBlock ≠ some g) ∧ Hid (n1 = cntU pre (ls.take k))) (fun _ i _ => n - (intOf i).toNat)
  case atStart => exact ⟨0, 0, 0, _, none, 0, 0, [], [], Nat.zero_le _, Nat.le_refl _, Nat.le_refl _, rfl, rfl, by (repeat (first | (with_reducible exact Below.refl _ _) | (with_reducible assumption) | ((with_reducible refine Below.setCell ?_ ?_ _); rotate_left; focus (first | omega | (simp; done) | (simp; omega))) | ((with_reducible refine Below.alloc ?_ ?_ _); rotate_left; focus (first | omega | (simp; done) | (simp; omega))) | (with_reducible refine Below.drew ?_) | (with_reducible refine below_drewN ?_ _) | (refine Below.trans ?_ (Below.mono (by with_reducible assumption) (by (first | omega | (simp; done) | (simp; omega))))))), by simp, by (repeat (first | (with_reducible assumption) | ((with_reducible refine Blk.new' ?_); focus (simp; done)) | (with_reducible refine Blk.alloc ?_ _) | (with_reducible refine Blk.drew ?_) | (with_reducible refine Blk.drewN ?_ _) | ((with_reducible refine Blk.far ?_ ?_ _); rotate_left; focus (first | omega | (simp; done) | (simp; omega))) | (refine Blk.keep ?_ (by with_reducible assumption)) | (refine Blk.below ?_ (by with_reducible assumption) (by (first | omega | (simp; done) | (simp; omega)))))), by (repeat (first | (with_reducible assumption) | ((with_reducible refine Blk.new' ?_); focus (simp; done)) | (with_reducible refine Blk.alloc ?_ _) | (with_reducible refine Blk.drew ?_) | (with_reducible refine Blk.drewN ?_ _) | ((with_reducible refine Blk.far ?_ ?_ _); rotate_left; focus (first | omega | (simp; done) | (simp; omega))) | (refine Blk.keep ?_ (by with_reducible assumption)) | (refine Blk.below ?_ (by with_reducible assumption) (by (first | omega | (simp; done) | (simp; omega)))))), by (repeat (first | (with_reducible assumption) | ((with_reducible refine Blk.new' ?_); focus (simp; done)) | (with_reducible refine Blk.alloc ?_ _) | (with_reducible refine Blk.drew ?_) | (with_reducible refine Blk.drewN ?_ _) | ((with_reducible refine Blk.far ?_ ?_ _); rotate_left; focus (first | omega | (simp; done) | (simp; omega))) | (refine Blk.keep ?_ (by with_reducible assumption)) | (refine Blk.below ?_ (by with_reducible assumption) (by (first | omega | (simp; done) | (simp; omega)))))), Lib.hid (by simpa using hlit), Lib.hid (World.ownsRow_nil _ _ _ _), Lib.hid (fun g _ hg => by simp [Value.ownBlock] at hg), Lib.hid rfl⟩
  case round =>
    clear hlit BK0 BK1
    obtain ⟨k, n1, n2, A1, A2, c1, c2, xs1, xs2, hk, hn1, hn2, rfl, rfl, hb, hzr, BK0, BK1, BO, H1, H2, HAp, HCn⟩ := hrel
    have hc0 := BK0.cell; have hf0 := BK0.frozen; have hl0 := BK0.lt; have hc1 := BK1.cell; have hf1 := BK1.frozen; have hl1 := BK1.lt; have hcO := BO.cell; have hfO := BO.frozen; have hlO := BO.lt
    by_cases hlt : k < n
    rotate_left
    · obtain rfl : k = n := by omega
      have HX : Hid (n1 = cntU pre ls) := Lib.hid (by rw [HCn.out]; exact (cntU_all (by rw [Hn.out]; exact Nat.le_refl _)).symm)
      go_wp2
      refine bodyPost_ret (v := .tuple #[.agg #[.slice A2 n2 c2], .slice A1 n1 c1]) (by simp [results, Tryd.results41, go_sem, hc1, hf1]) rfl ⟨A2, n2, c2, A1, c1, by rw [← HX.out], by (repeat (first | (with_reducible exact Below.refl _ _) | (with_reducible assumption) | ((with_reducible refine Below.setCell ?_ ?_ _); rotate_left; focus (first | omega | (simp; done) | (simp; omega))) | ((with_reducible refine Below.alloc ?_ ?_ _); rotate_left; focus (first | omega | (simp; done) | (simp; omega))) | (with_reducible refine Below.drew ?_) | (with_reducible refine below_drewN ?_ _) | (refine Below.trans ?_ (Below.mono (by with_reducible assumption) (by (first | omega | (simp; done) | (simp; omega)))))))⟩
    have hlx : k < ls.length := by rw [Hn.out]; exact hlt
    have HG := Lib.hid (List.getElem?_eq_getElem hlx)
    generalize ls[k]'hlx = l at HG
    clear hlx
    obtain ⟨b, off, rfl, hab, hps, hq0, hq1, hq2, hq3, hq4, hq5⟩ := lease_elem (hr.below hb (Nat.le_refl _)) HG.out
    have hzb := hb.size
    go_wp2_with fail
    refine (spec_UnderPath pre l.Path _ hp hps).mono ?_
    rintro e w3 ⟨rfl, hb3⟩
    have hz3 := hb3.size
    replace hq0 := (hb3.cell (World.block_lt_of_cell? _ _ hq0)).trans hq0; replace hq1 := (hb3.cell (World.block_lt_of_cell? _ _ hq1)).trans hq1; replace hq2 := (hb3.cell (World.block_lt_of_cell? _ _ hq2)).trans hq2; replace hq3 := (hb3.cell (World.block_lt_of_cell? _ _ hq3)).trans hq3; replace hq4 := (hb3.cell (World.block_lt_of_cell? _ _ hq4)).trans hq4; replace hq5 := (hb3.cell (World.block_lt_of_cell? _ _ hq5)).trans hq5
    replace BK0 := BK0.keep hb3; replace BK1 := BK1.keep hb3; replace BO := BO.keep hb3
    replace hc0 := BK0.cell; replace hf0 := BK0.frozen; replace hl0 := BK0.lt; replace hc1 := BK1.cell; replace hf1 := BK1.frozen; replace hl1 := BK1.lt; replace hcO := BO.cell; replace hfO := BO.frozen; replace hlO := BO.lt
    have h1 := own_below H1.out hb3
    have h2 := own_below H2.out hb3
    have h1lt : ∀ q, (Value.slice A1 n1 c1).ownBlock = some q → w2.heap.size + 1 ≤ q ∧ q < w3.heap.size := fun q e => h1.lt q e
    have h2lt : ∀ q, (Value.slice A2 n2 c2).ownBlock = some q → w2.heap.size + 1 ≤ q ∧ q < w3.heap.size := fun q e => h2.lt q e
    have hb' : Below w.heap.size w w3 := by (repeat (first | (with_reducible exact Below.refl _ _) | (with_reducible assumption) | ((with_reducible refine Below.setCell ?_ ?_ _); rotate_left; focus (first | omega | (simp; done) | (simp; omega))) | ((with_reducible refine Below.alloc ?_ ?_ _); rotate_left; focus (first | omega | (simp; done) | (simp; omega))) | (with_reducible refine Below.drew ?_) | (with_reducible refine below_drewN ?_ _) | (refine Below.trans ?_ (Below.mono (by with_reducible assumption) (by (first | omega | (simp; done) | (simp; omega)))))))
    clear hb hb3 H1 H2
    cases hu : underB pre l.Path
    rotate_left
    · have HU := Lib.hid (cntU_yes HG.out hu)
      clear hu
      go_wp2_with (first | (at_builtin; go_loud (refine wpList_append_own_at _ rfl _ _ 34 rfl (w2.heap.size + 1) 26 i0 _ 6 56 Tryd.underlying34 hi0 hz0 hz1' hz2' rfl (by decide) _ _ _ rfl (h1.alloc _) ⟨w3.heap.size, 0, none⟩ 1 1 [.int .i64 l.Id, .int .i64 l.Token, .string l.Path, .int .i64 l.Made, .int .i64 l.Ends, .int .i64 l.Limit] rfl rfl ?c1 ?c2 ?c3 ?c4 ?c5 ?_; (case c1 => exact (World.news_of_block (cs := #[.int .i64 l.Id, .int .i64 l.Token, .string l.Path, .int .i64 l.Made, .int .i64 l.Ends, .int .i64 l.Limit]) (t := 26) (fr := (0, 0)) (heap_alloc_new w3 _))); (case c2 => simp [Value.oneCell']); (case c3 => (simp only [maxLen]; omega)); (case c4 => omega); (case c5 => (simp; omega)); intro v' wA hown1 hgrow hnil hat; obtain ⟨gg, cap, rfl, hg1, hg2⟩ := hown1.form (by omega))))
      go_roundw
      case rel =>
        have hzg := hgrow.size
        have hzg2 : w3.heap.size + 1 ≤ wA.heap.size := by simpa using hzg
        have hbA : Below w.heap.size w (w3.alloc (.cells #[.int .i64 l.Id, .int .i64 l.Token, .string l.Path, .int .i64 l.Made, .int .i64 l.Ends, .int .i64 l.Limit] 26)) := Below.alloc hb' (by omega) _
        have hneI : ∀ q, q < w2.heap.size + 1 → some q ≠ (Value.slice A1 n1 c1).ownBlock := fun q hq e => by have := (h1lt _ e.symm).1; omega
        have hat2 : (Value.slice A1 n1 c1).ownBlock = some gg ∨ gg = w3.heap.size + 1 := by
            rcases hat with h | h
            · have h2 : (Value.slice A1 n1 c1).ownBlock = (Value.slice (some ⟨gg, 0, none⟩) (n1 + 1) cap).ownBlock := h.symm
              exact Or.inl (by rw [h2]; simp [Value.ownBlock])
            · exact Or.inr (by simpa [Value.ownBlock] using h)
        refine ⟨k + 1, n1 + 1, n2, some ⟨gg, 0, none⟩, A2, cap, c2, xs1 ++ [.int .i64 l.Id, .int .i64 l.Token, .string l.Path, .int .i64 l.Made, .int .i64 l.Ends, .int .i64 l.Limit], xs2, by omega, by omega, by omega, by go_num, rfl, ?_, by omega, ?_, ?_, ?_, Lib.hid hown1, Lib.hid ?_, Lib.hid ?_, Lib.hid (by rw [HU.out, HCn.out])⟩
        · exact Below.grown hbA hgrow (by simp; omega) (fun q e => by have := h1lt q e; omega)
        · exact (BK0.alloc _).grown hgrow (hneI _ (by omega))
        · exact (BK1.alloc _).grown hgrow (hneI _ (by omega))
        · exact (BO.alloc _).grown hgrow (hneI _ (by omega))
        · exact own_grownU (h2.alloc _) hgrow (fun q hq e => HAp.out q e hq)
        · intro q hq e
          have e2 : gg = q := by simpa [Value.ownBlock] using hq
          rcases hat2 with h | h
          · exact HAp.out q (by rw [h, e2]) e
          · have := (h2lt q e).2; omega
      case measure => simp [intOf]; omega
    · have HU := Lib.hid (cntU_no HG.out hu)
      clear hu
      go_wp2
      have hcA := (BO.alloc (.cells #[.int .i64 l.Id, .int .i64 l.Token, .string l.Path, .int .i64 l.Made, .int .i64 l.Ends, .int .i64 l.Limit] 26)).cell
      go_region_law (refine step_append_lies _ (by rfl) _ _ _ (by rfl) (w2.heap.size + 1) 26 i0 _ 6 56 Tryd.underlying34 hi0 hz0 hz1' hz2' rfl (by omega) (.slice A2 n2 c2) n2 _ (by rfl) ((h2.alloc _).drew) ⟨w3.heap.size, 0, none⟩ 1 1 [.int .i64 l.Id, .int .i64 l.Token, .string l.Path, .int .i64 l.Made, .int .i64 l.Ends, .int .i64 l.Limit] (by rfl) (by rfl) (World.news_of_block (cs := #[.int .i64 l.Id, .int .i64 l.Token, .string l.Path, .int .i64 l.Made, .int .i64 l.Ends, .int .i64 l.Limit]) (t := 26) (fr := (0, 0)) (heap_alloc_new w3 _)) (by simp [Value.oneCell']) (by omega) (by simp only [maxLen]; omega) (by omega) (by simp; omega) (w3.heap.size + 1) (by simp) ?_; intro gg cap w4 hown1 hgrow hat hlt1; have BX := Blk.grown (BO.alloc (.cells #[.int .i64 l.Id, .int .i64 l.Token, .string l.Path, .int .i64 l.Made, .int .i64 l.Ends, .int .i64 l.Limit] 26)).drew hgrow (fun e => by have := (h2lt _ e.symm).1; omega); have hcX := BX.cell; have hfX := BX.frozen)
      all_goals
        go_wp2
        go_roundw
        case rel =>
          have hzg := hgrow.size
          have hzg2 : w3.heap.size + 1 ≤ w4.heap.size := by simpa using hzg
          have hbA : Below w.heap.size w (w3.alloc (.cells #[.int .i64 l.Id, .int .i64 l.Token, .string l.Path, .int .i64 l.Made, .int .i64 l.Ends, .int .i64 l.Limit] 26)).drew := Below.drew (Below.alloc hb' (by omega) _)
          have hneI : ∀ q, q < w2.heap.size + 1 → some q ≠ (Value.slice A2 n2 c2).ownBlock := fun q hq e => by have := (h2lt _ e.symm).1; omega
          refine ⟨k + 1, n1, n2 + 1, A1, some ⟨gg, 0, none⟩, c1, cap, xs1, xs2 ++ [.int .i64 l.Id, .int .i64 l.Token, .string l.Path, .int .i64 l.Made, .int .i64 l.Ends, .int .i64 l.Limit], by omega, by omega, by omega, by go_num, rfl, ?_, by simp; omega, ?_, ?_, ?_, Lib.hid ?_, Lib.hid ?_, Lib.hid ?_, Lib.hid (by rw [HU.out, HCn.out])⟩
          · exact (Below.grown hbA hgrow (by simp; omega) (fun q e => by have := h2lt q e; omega)).setCell (by simp; try omega) _
          · exact ((BK0.alloc (.cells #[.int .i64 l.Id, .int .i64 l.Token, .string l.Path, .int .i64 l.Made, .int .i64 l.Ends, .int .i64 l.Limit] 26)).drew.grown hgrow (hneI _ (by omega))).far (by simp; try omega) _
          · exact ((BK1.alloc (.cells #[.int .i64 l.Id, .int .i64 l.Token, .string l.Path, .int .i64 l.Made, .int .i64 l.Ends, .int .i64 l.Limit] 26)).drew.grown hgrow (hneI _ (by omega))).far (by simp; try omega) _
          · have hB := BX.set_ 0 (.slice (some ⟨gg, 0, none⟩) (n2 + 1) cap)
            simpa using hB
          · refine own_setCell ?_ (by simp) _
            exact own_grownU (own_drew (h1.alloc _)) hgrow (fun q hq e => HAp.out q hq e)
          · exact own_setCell hown1 (by simp) _
          · intro q hq e
            have e2 : gg = q := by simpa [Value.ownBlock] using e
            rcases hat with h | h
            · exact HAp.out q hq (by rw [← e2]; exact h)
            · have h3 := (h1lt q hq).2
              try simp at h
              omega
        case measure => simp [intOf]; omega
set_option maxHeartbeats 3200000 in
theorem spec_CountUnderL (cs : List Value) (f : Book) (pre : ByteArray) (w : World) (h : BookR.Rd w w.heap.size cs f) (hm : BookR.sz f ≤ 1048576) (hp : pre.size ≤ 9223372036854775807) :
    Calls Tryd.prog 23 #[.agg cs.toArray, .string pre] w fun e w' => e = .returned (.int .i64 (countU f.Leases pre)) ∧ Below w.heap.size w w' := by
  obtain ⟨v0, rfl, q0⟩ := rd_Book (_root_.id h)
  obtain ⟨A0, c0, rfl⟩ := q0.form
  have HOk := Lib.hid (fun (w' : World) (h : BookR.Rd w' w'.heap.size [.slice A0 f.Leases.length c0] f) => spec_BookOkL _ f w' h hm)
  have HPa := Lib.hid (fun (w' : World) => spec_PathOk pre w' hp)
  have HR := Lib.hid (fun (w' : World) (hb : Below w.heap.size w w') (hz : w.heap.size ≤ w'.heap.size) => BookR.rd_keep h hb hz)
  have hml := book_len hm
  have HRs := Lib.hid (fun (w' : World) (hb : Below w.heap.size w w') (hz : w.heap.size ≤ w'.heap.size) => q0.keep hb hz)
  clear h q0 hm
  generalize hT : f.Leases = ls at *
  cases hok : bookOk ls
  · have HD := Lib.hid (countU_bad (p := pre) hok)
    rw [hok] at HOk
    clear hok
    go_enter Tryd.func23, Tryd.ntmps23
    go_wp2_with fail
    refine (HOk.out _ (HR.out _ (by (repeat (first | (with_reducible exact Below.refl _ _) | (with_reducible assumption) | ((with_reducible refine Below.setCell ?_ ?_ _); rotate_left; focus (first | omega | (simp; done) | (simp; omega))) | ((with_reducible refine Below.alloc ?_ ?_ _); rotate_left; focus (first | omega | (simp; done) | (simp; omega))) | (with_reducible refine Below.drew ?_) | (with_reducible refine below_drewN ?_ _) | (refine Below.trans ?_ (Below.mono (by with_reducible assumption) (by (first | omega | (simp; done) | (simp; omega)))))))) (by first | omega | (simp; done) | (simp; omega)))).mono ?_
    rintro e w1 ⟨rfl, hb1⟩
    have hz1 := hb1.size; try simp at hz1
    go_wp2
    go_ret
    exact ⟨ret_int (by rw [HD.out]), by (repeat (first | (with_reducible exact Below.refl _ _) | (with_reducible assumption) | ((with_reducible refine Below.setCell ?_ ?_ _); rotate_left; focus (first | omega | (simp; done) | (simp; omega))) | ((with_reducible refine Below.alloc ?_ ?_ _); rotate_left; focus (first | omega | (simp; done) | (simp; omega))) | (with_reducible refine Below.drew ?_) | (with_reducible refine below_drewN ?_ _) | (refine Below.trans ?_ (Below.mono (by with_reducible assumption) (by (first | omega | (simp; done) | (simp; omega)))))))⟩
  cases hpa : pathOk pre
  · have HD := Lib.hid (countU_path (ls := ls) hpa)
    rw [hok] at HOk
    rw [hpa] at HPa
    clear hok hpa
    go_enter Tryd.func23, Tryd.ntmps23
    go_wp2_with fail
    refine (HOk.out _ (HR.out _ (by (repeat (first | (with_reducible exact Below.refl _ _) | (with_reducible assumption) | ((with_reducible refine Below.setCell ?_ ?_ _); rotate_left; focus (first | omega | (simp; done) | (simp; omega))) | ((with_reducible refine Below.alloc ?_ ?_ _); rotate_left; focus (first | omega | (simp; done) | (simp; omega))) | (with_reducible refine Below.drew ?_) | (with_reducible refine below_drewN ?_ _) | (refine Below.trans ?_ (Below.mono (by with_reducible assumption) (by (first | omega | (simp; done) | (simp; omega)))))))) (by first | omega | (simp; done) | (simp; omega)))).mono ?_
    rintro e w1 ⟨rfl, hb1⟩
    have hz1 := hb1.size; try simp at hz1
    have BK0 : Blk w1 w.heap.size 36 #[.slice A0 ls.length c0] := by (repeat (first | (with_reducible assumption) | ((with_reducible refine Blk.new' ?_); focus (simp; done)) | (with_reducible refine Blk.alloc ?_ _) | (with_reducible refine Blk.drew ?_) | (with_reducible refine Blk.drewN ?_ _) | ((with_reducible refine Blk.far ?_ ?_ _); rotate_left; focus (first | omega | (simp; done) | (simp; omega))) | (refine Blk.keep ?_ (by with_reducible assumption)) | (refine Blk.below ?_ (by with_reducible assumption) (by (first | omega | (simp; done) | (simp; omega))))))
    have hc0 := BK0.cell
    go_wp2_with fail
    refine (HPa.out _).mono ?_
    rintro e w2 ⟨rfl, hb2⟩
    have hz2 := hb2.size; try simp at hz2
    go_wp2
    go_ret
    exact ⟨ret_int (by rw [HD.out]), by (repeat (first | (with_reducible exact Below.refl _ _) | (with_reducible assumption) | ((with_reducible refine Below.setCell ?_ ?_ _); rotate_left; focus (first | omega | (simp; done) | (simp; omega))) | ((with_reducible refine Below.alloc ?_ ?_ _); rotate_left; focus (first | omega | (simp; done) | (simp; omega))) | (with_reducible refine Below.drew ?_) | (with_reducible refine below_drewN ?_ _) | (refine Below.trans ?_ (Below.mono (by with_reducible assumption) (by (first | omega | (simp; done) | (simp; omega)))))))⟩
  · have HD := Lib.hid (countU_ok hok hpa)
    have HDU := Lib.hid (fun (w' : World) (h : SlRd LeaseR w' w'.heap.size (.slice A0 ls.length c0) ls) => spec_DropUnder_ok A0 c0 ls pre w' h hml hp hok hpa)
    rw [hok] at HOk
    rw [hpa] at HPa
    clear hok hpa
    go_enter Tryd.func23, Tryd.ntmps23
    go_wp2_with fail
    refine (HOk.out _ (HR.out _ (by (repeat (first | (with_reducible exact Below.refl _ _) | (with_reducible assumption) | ((with_reducible refine Below.setCell ?_ ?_ _); rotate_left; focus (first | omega | (simp; done) | (simp; omega))) | ((with_reducible refine Below.alloc ?_ ?_ _); rotate_left; focus (first | omega | (simp; done) | (simp; omega))) | (with_reducible refine Below.drew ?_) | (with_reducible refine below_drewN ?_ _) | (refine Below.trans ?_ (Below.mono (by with_reducible assumption) (by (first | omega | (simp; done) | (simp; omega)))))))) (by first | omega | (simp; done) | (simp; omega)))).mono ?_
    rintro e w1 ⟨rfl, hb1⟩
    have hz1 := hb1.size; try simp at hz1
    have BK0 : Blk w1 w.heap.size 36 #[.slice A0 ls.length c0] := by (repeat (first | (with_reducible assumption) | ((with_reducible refine Blk.new' ?_); focus (simp; done)) | (with_reducible refine Blk.alloc ?_ _) | (with_reducible refine Blk.drew ?_) | (with_reducible refine Blk.drewN ?_ _) | ((with_reducible refine Blk.far ?_ ?_ _); rotate_left; focus (first | omega | (simp; done) | (simp; omega))) | (refine Blk.keep ?_ (by with_reducible assumption)) | (refine Blk.below ?_ (by with_reducible assumption) (by (first | omega | (simp; done) | (simp; omega))))))
    have hc0 := BK0.cell
    go_wp2_with fail
    refine (HPa.out _).mono ?_
    rintro e w2 ⟨rfl, hb2⟩
    have hz2 := hb2.size; try simp at hz2
    replace BK0 : Blk w2 w.heap.size 36 #[.slice A0 ls.length c0] := by (repeat (first | (with_reducible assumption) | ((with_reducible refine Blk.new' ?_); focus (simp; done)) | (with_reducible refine Blk.alloc ?_ _) | (with_reducible refine Blk.drew ?_) | (with_reducible refine Blk.drewN ?_ _) | ((with_reducible refine Blk.far ?_ ?_ _); rotate_left; focus (first | omega | (simp; done) | (simp; omega))) | (refine Blk.keep ?_ (by with_reducible assumption)) | (refine Blk.below ?_ (by with_reducible assumption) (by (first | omega | (simp; done) | (simp; omega))))))
    replace hc0 := BK0.cell
    go_wp2_with fail
    refine (HDU.out _ (HRs.out _ (by (repeat (first | (with_reducible exact Below.refl _ _) | (with_reducible assumption) | ((with_reducible refine Below.setCell ?_ ?_ _); rotate_left; focus (first | omega | (simp; done) | (simp; omega))) | ((with_reducible refine Below.alloc ?_ ?_ _); rotate_left; focus (first | omega | (simp; done) | (simp; omega))) | (with_reducible refine Below.drew ?_) | (with_reducible refine below_drewN ?_ _) | (refine Below.trans ?_ (Below.mono (by with_reducible assumption) (by (first | omega | (simp; done) | (simp; omega)))))))) (by first | omega | (simp; done) | (simp; omega)))).mono ?_
    rintro e w3 ⟨A2, n2, c2, A1, c1, rfl, hb3⟩
    have hz3 := hb3.size; try simp at hz3
    go_wp2
    go_ret
    exact ⟨ret_int (by rw [HD.out]), by (repeat (first | (with_reducible exact Below.refl _ _) | (with_reducible assumption) | ((with_reducible refine Below.setCell ?_ ?_ _); rotate_left; focus (first | omega | (simp; done) | (simp; omega))) | ((with_reducible refine Below.alloc ?_ ?_ _); rotate_left; focus (first | omega | (simp; done) | (simp; omega))) | (with_reducible refine Below.drew ?_) | (with_reducible refine below_drewN ?_ _) | (refine Below.trans ?_ (Below.mono (by with_reducible assumption) (by (first | omega | (simp; done) | (simp; omega)))))))⟩
end Go.Proofs.YtbfnkfaagmjfnaaDoor

/- AddLease: plain data, copies of books. -/
import Derived.Test.YtohfnpohmieknaaDoorBookL
import Derived.Test.YtohfnpohmieknaaDoorAppend
set_option linter.unusedSimpArgs false
set_option linter.unusedVariables false
set_option maxRecDepth 20000
namespace Go.Proofs.YtohfnpohmieknaaDoor
open Go.RowKit
def addOk (ls : List Lease) (l : Lease) : Bool := bookOk ls && bookOk (ls ++ [l])
def addL (ls : List Lease) (l : Lease) : List Lease := match addOk ls l with | true => ls ++ [l] | false => ls
theorem addOk_bad {ls : List Lease} {l : Lease} (h : bookOk ls = false) : addOk ls l = false := by unfold addOk; rw [h]; rfl
theorem addOk_no {ls : List Lease} {l : Lease} (h : bookOk (ls ++ [l]) = false) : addOk ls l = false := by unfold addOk; rw [h, Bool.and_false]
theorem addOk_yes {ls : List Lease} {l : Lease} (h : bookOk ls = true) (h2 : bookOk (ls ++ [l]) = true) : addOk ls l = true := by unfold addOk; rw [h, h2]; rfl
theorem addL_no {ls : List Lease} {l : Lease} (h : addOk ls l = false) : addL ls l = ls := by unfold addL; rw [h]
theorem addL_yes {ls : List Lease} {l : Lease} (h : addOk ls l = true) : addL ls l = ls ++ [l] := by unfold addL; rw [h]
theorem addL_sz (ls : List Lease) (l : Lease) : szList LeaseR (addL ls l) ≤ szList LeaseR ls + (1 + LeaseR.sz l) := by
  unfold addL
  cases addOk ls l
  · exact Nat.le_add_right _ _
  · simp only [szList, List.length_append, List.map_append, List.sum_append, List.length_singleton, List.map_cons, List.map_nil, List.sum_cons, List.sum_nil]; omega
theorem lease_path {ls : List Lease} {k : Nat} {l : Lease} (h : bookOk ls = true) (hl : ls[k]? = some l) : l.Path.size ≤ 120 := by
  unfold bookOk at h
  rw [Bool.and_eq_true] at h
  have h1 := okAll_get h.2 (List.getElem?_eq_some_iff.1 hl).1 hl
  unfold leaseOk at h1
  simp only [Bool.and_eq_true] at h1
  exact path_len h1.2.2.1
theorem addL_sz2 (ls : List Lease) (l : Lease) : szList LeaseR (addL ls l) ≤ szList LeaseR ls + 121 := by
  cases h : addOk ls l
  · rw [addL_no h]; omega
  · have h2 := h
    unfold addOk at h2
    rw [Bool.and_eq_true] at h2
    have h3 := lease_path (k := ls.length) (l := l) h2.2 (by simp)
    have h4 := addL_sz ls l
    rw [sz_Lease] at h4
    omega
theorem leases_one (xs : List Lease) : ∀ u ∈ xs.flatMap Lease.cells, u.oneCell' = true := by
  intro u hu
  obtain ⟨x, _, h⟩ := List.mem_flatMap.1 hu
  exact x.one u h
theorem reads_LeaseS {w : World} {B n : Nat} {A : Option Addr} {c : Nat} {xs : List Lease} (h : SlRd LeaseR w B (.slice A n c) xs) : Reads w B A (xs.flatMap Lease.cells) ∧ ∀ x ∈ xs, x.Path.size ≤ 9223372036854775807 := by
  obtain ⟨h1, h2, h3, h4, h5⟩ := SlRd.reads (by omega) h
  exact ⟨h2, h5⟩
theorem of_own_LeaseS {w : World} {base : Nat} {A : Option Addr} {c n : Nat} {xs : List Lease} (h : w.ownsRow base 32 6 (.slice A n c) n (xs.flatMap Lease.cells)) (hn : xs.length = n) (hok : ∀ x ∈ xs, x.Path.size ≤ 9223372036854775807) : SlOwn LeaseR 32 w (InR base w.heap.size) (.slice A n c) xs := by
  subst hn
  exact (SlOwn.of_own (by omega) h hok).wide (own_inR h)
theorem rd_own_LeaseS {w : World} {base : Nat} {A : Option Addr} {c n : Nat} {xs : List Lease} (h : w.ownsRow base 32 6 (.slice A n c) n (xs.flatMap Lease.cells)) (hn : xs.length = n) (hok : ∀ x ∈ xs, x.Path.size ≤ 9223372036854775807) : SlRd LeaseR w w.heap.size (.slice A n c) xs :=
  (of_own_LeaseS h hn hok).rd (fun g hg => hg.2)
set_option maxHeartbeats 800000 in
theorem slices_Clone_Lease (A : Option Addr) (c : Nat) (xs : List Lease) (w : World) (hr : Reads w w.heap.size A (xs.flatMap Lease.cells)) (hm : xs.length ≤ 1073741824) :
    Calls Tryd.prog 25 #[.slice A xs.length c] w fun e w' => ∃ A1 c1, e = .returned (.slice A1 xs.length c1) ∧ w'.ownsRow w.heap.size 32 6 (.slice A1 xs.length c1) xs.length (xs.flatMap Lease.cells) ∧ Below w.heap.size w w' := by
  obtain ⟨i0, hi0, hI0, hI1, hI2⟩ := info_parts info_Lease
  generalize hn : xs.length = n at hm
  have Hn := Lib.hid hn
  have hnil := fun w => Lib.run_eql_slice_nil (P := Tryd.prog) w 24 32 A n c 0 0 Tryd.underlying24
  cases A with
  | none =>
    have hx : xs = [] := by
      cases xs with
      | nil => rfl
      | cons x xs => obtain ⟨b, off, h, _⟩ := hr (by simp [Lease.cells]); cases h
    subst hx
    obtain rfl : n = 0 := hn.symm
    clear hn
    go_enter Tryd.func25, Tryd.ntmps25
    go_wp2
    go_ret
    exact ⟨none, 0, rfl, World.ownsRow_nil _ _ _ _, by (repeat (first | (with_reducible exact Below.refl _ _) | (with_reducible assumption) | ((with_reducible refine Below.setCell ?_ ?_ _); rotate_left; focus (first | omega | (simp; done) | (simp; omega))) | ((with_reducible refine Below.alloc ?_ ?_ _); rotate_left; focus (first | omega | (simp; done) | (simp; omega))) | (with_reducible refine Below.drew ?_) | (with_reducible refine below_drewN ?_ _) | (refine Below.trans ?_ (Below.mono (by with_reducible assumption) (by (first | omega | (simp; done) | (simp; omega)))))))⟩
  | some a =>
    clear hn
    have hown0 : World.ownsRow _ _ 32 6 _ _ _ := World.ownsRow_lit w #[] 0 (Nat.le_refl _) (by simp [maxLen]) rfl
    have H1 := Lib.hid (leases_one xs)
    have hrA : Reads (w.alloc (.cells #[] 32)) w.heap.size (some a) (xs.flatMap Lease.cells) := hr.below (by (repeat (first | (with_reducible exact Below.refl _ _) | (with_reducible assumption) | ((with_reducible refine Below.setCell ?_ ?_ _); rotate_left; focus (first | omega | (simp; done) | (simp; omega))) | ((with_reducible refine Below.alloc ?_ ?_ _); rotate_left; focus (first | omega | (simp; done) | (simp; omega))) | (with_reducible refine Below.drew ?_) | (with_reducible refine below_drewN ?_ _) | (refine Below.trans ?_ (Below.mono (by with_reducible assumption) (by (first | omega | (simp; done) | (simp; omega)))))))) (Nat.le_refl _)
    go_enter Tryd.func25, Tryd.ntmps25
    go_wp2_with (first | (at_builtin; go_loud (refine wpList_append_reads rfl _ _ 24 rfl w.heap.size 32 i0 _ 6 56 Tryd.underlying24 hi0 hI0 hI1 hI2 rfl (by decide) _ _ _ rfl hown0 w.heap.size (some a) n c (xs.flatMap Lease.cells) rfl ?c0 hrA H1.out ?c3 ?c4 ?c5 ?_; (case c0 => rw [flat_length Lease.cells 6 Lease.len, Hn.out]); (case c3 => (simp only [maxLen]; omega)); (case c4 => omega); (case c5 => (first | omega | (simp; done) | (simp; omega))); intro v' wA hown1 hgrow hat; obtain ⟨A1, c1, rfl⟩ := own_slice hown1)))
    go_ret
    refine ⟨A1, c1, by simp, by simpa using hown1, ?_⟩
    exact Below.grown ((Below.refl _ _).alloc (Nat.le_refl _) _) hgrow (by simp) (fun g e => (hown0.lt _ e).1)
set_option maxHeartbeats 800000 in
theorem impl_cloneBook (A0 : Option Addr) (c0 : Nat) (ls : List Lease) (w : World) (h : SlRd LeaseR w w.heap.size (.slice A0 ls.length c0) ls) (hm : ls.length ≤ 1048576) :
    Calls Tryd.prog 16 #[.agg #[.slice A0 ls.length c0]] w fun e w' => ∃ A d, e = .returned (.agg #[.slice A ls.length d]) ∧ w'.ownsRow w.heap.size 32 6 (.slice A ls.length d) ls.length (ls.flatMap Lease.cells) ∧ Below w.heap.size w w' := by
  have H0 := Lib.hid (fun (w' : World) (hb : Below w.heap.size w w') => slices_Clone_Lease A0 c0 ls w' ((reads_LeaseS h).1.keep hb hb.size) (by omega))
  go_enter Tryd.func16, Tryd.ntmps16
  go_wp2_with fail
  refine (H0.out _ (by (repeat (first | (with_reducible exact Below.refl _ _) | (with_reducible assumption) | ((with_reducible refine Below.setCell ?_ ?_ _); rotate_left; focus (first | omega | (simp; done) | (simp; omega))) | ((with_reducible refine Below.alloc ?_ ?_ _); rotate_left; focus (first | omega | (simp; done) | (simp; omega))) | (with_reducible refine Below.drew ?_) | (with_reducible refine below_drewN ?_ _) | (refine Below.trans ?_ (Below.mono (by with_reducible assumption) (by (first | omega | (simp; done) | (simp; omega))))))))).mono ?_
  rintro e w1 ⟨D, d, rfl, ho1, hb1⟩
  have hz1 := hb1.size; try simp at hz1
  have BR : Blk w1 (w.heap.size + 1) 26 #[.slice none 0 0] := by (repeat (first | (with_reducible assumption) | ((with_reducible refine Blk.new' ?_); focus (simp; done)) | (with_reducible refine Blk.alloc ?_ _) | (with_reducible refine Blk.drew ?_) | (with_reducible refine Blk.drewN ?_ _) | ((with_reducible refine Blk.far ?_ ?_ _); rotate_left; focus (first | omega | (simp; done) | (simp; omega))) | (refine Blk.keep ?_ (by with_reducible assumption)) | (refine Blk.below ?_ (by with_reducible assumption) (by (first | omega | (simp; done) | (simp; omega))))))
  have hcR := BR.cell; have hfR := BR.frozen; have hlR := BR.lt
  go_wp2
  refine bodyPost_ret (v := .agg #[.slice D ls.length d]) (by simp [results, Tryd.results16, go_sem, hcR, hfR]) rfl ⟨D, d, rfl, ?_, by (repeat (first | (with_reducible exact Below.refl _ _) | (with_reducible assumption) | ((with_reducible refine Below.setCell ?_ ?_ _); rotate_left; focus (first | omega | (simp; done) | (simp; omega))) | ((with_reducible refine Below.alloc ?_ ?_ _); rotate_left; focus (first | omega | (simp; done) | (simp; omega))) | (with_reducible refine Below.drew ?_) | (with_reducible refine below_drewN ?_ _) | (refine Below.trans ?_ (Below.mono (by with_reducible assumption) (by (first | omega | (simp; done) | (simp; omega)))))))⟩
  exact own_base (own_setCell ho1 (by first | omega | (simp; done) | (simp; omega)) _) (by first | omega | (simp; done) | (simp; omega))
end Go.Proofs.YtohfnpohmieknaaDoor

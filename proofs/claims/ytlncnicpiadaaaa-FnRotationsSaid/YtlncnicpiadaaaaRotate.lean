/- Rotating a ring: cloneRing, RotateRing of the program. -/
import Derived.Test.YtlncnicpiadaaaaImplRing
import Derived.Test.YtlncnicpiadaaaaAppend
import Derived.Test.YtlncnicpiadaaaaPureWrap
set_option linter.unusedSimpArgs false
set_option linter.unusedVariables false
set_option maxRecDepth 20000
namespace Go.Proofs.Ytlncnicpiadaaaa
open Go.RowKit
set_option maxHeartbeats 800000 in
theorem slices_Clone_int (A : Option Addr) (c : Nat) (xs : List Int) (w : World) (hr : Reads w w.heap.size A (xs.map intV)) (hm : xs.length ≤ 1073741824) :
    Calls Try.prog 69 #[.slice A xs.length c] w fun e w' => ∃ A1 c1, e = .returned (.slice A1 xs.length c1) ∧ w'.ownsRow w.heap.size 3 1 (.slice A1 xs.length c1) xs.length (xs.map intV) ∧ Below w.heap.size w w' := by
  obtain ⟨i0, hi0, hI0, hI1, hI2⟩ := info_parts info_int
  generalize hn : xs.length = n at hm
  have Hn := Lib.hid hn
  have hnil := fun w => Lib.run_eql_slice_nil (P := Try.prog) w 22 3 A n c 0 0 Try.underlying22
  cases A with
  | none =>
    have hx : xs = [] := by
      cases xs with
      | nil => rfl
      | cons x xs => obtain ⟨b, off, h, _⟩ := hr (by simp); cases h
    subst hx
    obtain rfl : n = 0 := hn.symm
    clear hn
    go_enter Try.func69, Try.ntmps69
    go_wp2
    go_ret
    exact ⟨none, 0, rfl, World.ownsRow_nil _ _ _ _, by (repeat (first | (with_reducible exact Below.refl _ _) | (with_reducible assumption) | ((with_reducible refine Below.setCell ?_ ?_ _); rotate_left; focus (first | omega | (simp; done) | (simp; omega))) | ((with_reducible refine Below.alloc ?_ ?_ _); rotate_left; focus (first | omega | (simp; done) | (simp; omega))) | (with_reducible refine Below.drew ?_) | (with_reducible refine below_drewN ?_ _) | (refine Below.trans ?_ (Below.mono (by with_reducible assumption) (by (first | omega | (simp; done) | (simp; omega)))))))⟩
  | some a =>
    clear hn
    have hown0 : World.ownsRow _ _ 3 1 _ _ _ := World.ownsRow_lit w #[] 0 (Nat.le_refl _) (by simp [maxLen]) rfl
    have H1 := Lib.hid (ints_one xs)
    have hrA : Reads (w.alloc (.cells #[] 3)) w.heap.size (some a) (xs.map intV) := hr.below (by (repeat (first | (with_reducible exact Below.refl _ _) | (with_reducible assumption) | ((with_reducible refine Below.setCell ?_ ?_ _); rotate_left; focus (first | omega | (simp; done) | (simp; omega))) | ((with_reducible refine Below.alloc ?_ ?_ _); rotate_left; focus (first | omega | (simp; done) | (simp; omega))) | (with_reducible refine Below.drew ?_) | (with_reducible refine below_drewN ?_ _) | (refine Below.trans ?_ (Below.mono (by with_reducible assumption) (by (first | omega | (simp; done) | (simp; omega)))))))) (Nat.le_refl _)
    go_enter Try.func69, Try.ntmps69
    go_wp2_with (first | (at_builtin; go_loud (refine wpList_append_reads rfl _ _ 22 rfl w.heap.size 3 i0 (.int .i64 0) 1 8 Try.underlying22 hi0 hI0 hI1 hI2 rfl (by decide) _ _ _ rfl hown0 w.heap.size (some a) n c (xs.map intV) rfl ?c0 hrA H1.out ?c3 ?c4 ?c5 ?_; (case c0 => rw [List.length_map, Hn.out, Nat.mul_one]); (case c3 => (simp only [maxLen]; omega)); (case c4 => omega); (case c5 => (first | omega | (simp; done) | (simp; omega))); intro v' wA hown1 hgrow hat; obtain ⟨A1, c1, rfl⟩ := own_slice hown1)))
    go_ret
    refine ⟨A1, c1, by simp, by simpa using hown1, ?_⟩
    exact Below.grown ((Below.refl _ _).alloc (Nat.le_refl _) _) hgrow (by simp) (fun g e => (hown0.lt _ e).1)
set_option maxHeartbeats 1600000 in
theorem impl_cloneRing (cs : List Value) (r : KeyRing) (w : World) (h : KeyRingR.Rd w w.heap.size cs r) (hm : KeyRingR.sz r ≤ 1048576) :
    Calls Try.prog 52 #[.agg cs.toArray] w fun e w' => ∃ A d, e = .returned (.agg #[.int .i64 r.First, .slice A r.Secrets.length d]) ∧ w'.ownsRow (w.heap.size + 2) 3 1 (.slice A r.Secrets.length d) r.Secrets.length (r.Secrets.map intV) ∧ Below w.heap.size w w' := by
  obtain ⟨v0, rfl, q0⟩ := rd_KeyRing h
  obtain ⟨A0, c0, rfl⟩ := q0.form
  rw [sz_KeyRing, sz_IntS] at hm
  have H0 := Lib.hid (fun (w' : World) (hb : Below w.heap.size w w') => slices_Clone_int A0 c0 r.Secrets w' ((rd_IntS q0).2.1.keep hb hb.size) (by omega))
  go_enter Try.func52, Try.ntmps52
  go_wp2
  have BK : Blk ((w.alloc (.cells #[.int .i64 r.First, .slice A0 r.Secrets.length c0] 34)).alloc (.cells #[.int .i64 0, .slice none 0 0] 34)) w.heap.size 34 #[.int .i64 r.First, .slice A0 r.Secrets.length c0] := by (repeat (first | (with_reducible assumption) | ((with_reducible refine Blk.new' ?_); focus (simp; done)) | (with_reducible refine Blk.alloc ?_ _) | (with_reducible refine Blk.drew ?_) | (with_reducible refine Blk.drewN ?_ _) | ((with_reducible refine Blk.far ?_ ?_ _); rotate_left; focus (first | omega | (simp; done) | (simp; omega))) | (refine Blk.keep ?_ (by with_reducible assumption)) | (refine Blk.below ?_ (by with_reducible assumption) (by (first | omega | (simp; done) | (simp; omega))))))
  have hbW : Below w.heap.size w ((w.alloc (.cells #[.int .i64 r.First, .slice A0 r.Secrets.length c0] 34)).alloc (.cells #[.int .i64 0, .slice none 0 0] 34)) := by (repeat (first | (with_reducible exact Below.refl _ _) | (with_reducible assumption) | ((with_reducible refine Below.setCell ?_ ?_ _); rotate_left; focus (first | omega | (simp; done) | (simp; omega))) | ((with_reducible refine Below.alloc ?_ ?_ _); rotate_left; focus (first | omega | (simp; done) | (simp; omega))) | (with_reducible refine Below.drew ?_) | (with_reducible refine below_drewN ?_ _) | (refine Below.trans ?_ (Below.mono (by with_reducible assumption) (by (first | omega | (simp; done) | (simp; omega)))))))
  have BR : Blk ((w.alloc (.cells #[.int .i64 r.First, .slice A0 r.Secrets.length c0] 34)).alloc (.cells #[.int .i64 0, .slice none 0 0] 34)) (w.heap.size + 1) 34 #[.int .i64 0, .slice none 0 0] := Blk.new' (by simp)
  have hzW : w.heap.size + 2 ≤ ((w.alloc (.cells #[.int .i64 r.First, .slice A0 r.Secrets.length c0] 34)).alloc (.cells #[.int .i64 0, .slice none 0 0] 34)).heap.size := by simp
  generalize (w.alloc (.cells #[.int .i64 r.First, .slice A0 r.Secrets.length c0] 34)).alloc (.cells #[.int .i64 0, .slice none 0 0] 34) = W at *
  go_region_held3 (fun w' => w'.cell? ⟨w.heap.size, 0, none⟩ = some (.int .i64 r.First) ∧ w'.cell? ⟨w.heap.size, 1, none⟩ = some (.slice A0 r.Secrets.length c0))
    (refine ⟨Blk.cell (t := 34) (cs := #[.int .i64 r.First, .slice A0 r.Secrets.length c0]) ?_ 0, Blk.cell (t := 34) (cs := #[.int .i64 r.First, .slice A0 r.Secrets.length c0]) ?_ 1⟩ <;> (repeat (first | (with_reducible assumption) | ((with_reducible refine Blk.new' ?_); focus (simp; done)) | (with_reducible refine Blk.alloc ?_ _) | (with_reducible refine Blk.drew ?_) | (with_reducible refine Blk.drewN ?_ _) | ((with_reducible refine Blk.far ?_ ?_ _); rotate_left; focus (first | omega | (simp; done) | (simp; omega))) | (refine Blk.keep ?_ (by with_reducible assumption)) | (refine Blk.below ?_ (by with_reducible assumption) (by (first | omega | (simp; done) | (simp; omega)))))))
    (first
    | (go_at_call 69; ((with_reducible refine (H0.out _ ?_).mono ?_); (focus (repeat (first | (with_reducible exact Below.refl _ _) | (with_reducible assumption) | ((with_reducible refine Below.setCell ?_ ?_ _); rotate_left; focus (first | omega | (simp; done) | (simp; omega))) | ((with_reducible refine Below.alloc ?_ ?_ _); rotate_left; focus (first | omega | (simp; done) | (simp; omega))) | (with_reducible refine Below.drew ?_) | (with_reducible refine below_drewN ?_ _) | (refine Below.trans ?_ (Below.mono (by with_reducible assumption) (by (first | omega | (simp; done) | (simp; omega))))))))); rintro e wA ⟨D0, d0, rfl, ho0, hbA⟩; have BKa : Blk wA w.heap.size 34 #[.int .i64 r.First, .slice A0 r.Secrets.length c0] := (by (repeat (first | (with_reducible assumption) | ((with_reducible refine Blk.new' ?_); focus (simp; done)) | (with_reducible refine Blk.alloc ?_ _) | (with_reducible refine Blk.drew ?_) | (with_reducible refine Blk.drewN ?_ _) | ((with_reducible refine Blk.far ?_ ?_ _); rotate_left; focus (first | omega | (simp; done) | (simp; omega))) | (refine Blk.keep ?_ (by with_reducible assumption)) | (refine Blk.below ?_ (by with_reducible assumption) (by (first | omega | (simp; done) | (simp; omega))))))); have BRa : Blk wA (w.heap.size + 1) 34 #[.int .i64 0, .slice none 0 0] := (by (repeat (first | (with_reducible assumption) | ((with_reducible refine Blk.new' ?_); focus (simp; done)) | (with_reducible refine Blk.alloc ?_ _) | (with_reducible refine Blk.drew ?_) | (with_reducible refine Blk.drewN ?_ _) | ((with_reducible refine Blk.far ?_ ?_ _); rotate_left; focus (first | omega | (simp; done) | (simp; omega))) | (refine Blk.keep ?_ (by with_reducible assumption)) | (refine Blk.below ?_ (by with_reducible assumption) (by (first | omega | (simp; done) | (simp; omega))))))); have hzA := hbA.size; (try simp at hzA); have hcA := BRa.cell; have hfA := BRa.frozen))
  go_wp2
  refine bodyPost_ret (v := .agg #[.int .i64 r.First, .slice D0 r.Secrets.length d0]) (by simp [results, Try.results52, go_sem, hcA, hfA]) rfl ⟨D0, d0, rfl, ?_, by (repeat (first | (with_reducible exact Below.refl _ _) | (with_reducible assumption) | ((with_reducible refine Below.setCell ?_ ?_ _); rotate_left; focus (first | omega | (simp; done) | (simp; omega))) | ((with_reducible refine Below.alloc ?_ ?_ _); rotate_left; focus (first | omega | (simp; done) | (simp; omega))) | (with_reducible refine Below.drew ?_) | (with_reducible refine below_drewN ?_ _) | (refine Below.trans ?_ (Below.mono (by with_reducible assumption) (by (first | omega | (simp; done) | (simp; omega)))))))⟩
  have e1 : W.drew.heap.size = W.heap.size := rfl
  replace ho0 := own_base (base' := w.heap.size + 2) ho0 (by omega)
  (repeat (first | (with_reducible exact ho0) | ((with_reducible refine own_setCell ?_ ?_ _); rotate_left; focus (first | omega | (simp; done) | (simp; omega))) | (with_reducible refine World.ownsRow.alloc ?_ _) | (with_reducible refine own_drew ?_) | (with_reducible refine own_drewN ?_ _) | (refine own_below ?_ (by with_reducible assumption))))
def rotR (r : KeyRing) (k : Int) : KeyRing := match decide (12 ≤ r.Secrets.length) with
  | true => ⟨r.First + 1, (r.Secrets ++ [k]).drop 1⟩
  | false => ⟨r.First, r.Secrets ++ [k]⟩
theorem rotR_full {r : KeyRing} {k : Int} (h : 12 ≤ r.Secrets.length) : rotR r k = ⟨r.First + 1, (r.Secrets ++ [k]).drop 1⟩ := by unfold rotR; rw [decide_eq_true h]
theorem rotR_more {r : KeyRing} {k : Int} (h : ¬ 12 ≤ r.Secrets.length) : rotR r k = ⟨r.First, r.Secrets ++ [k]⟩ := by unfold rotR; rw [decide_eq_false h]
theorem Reads.drop1 {w : World} {B b : Nat} {xs : List Value} (h : Reads w B (some ⟨b, 0, none⟩) xs) : Reads w B (some ⟨b, 1, none⟩) (xs.drop 1) := fun h0 => by
  have h1 : 0 < xs.length := by rw [List.length_drop] at h0; omega
  obtain ⟨b', off, e, hb, hc⟩ := h h1
  simp only [Option.some.injEq, Addr.mk.injEq, and_true] at e
  obtain ⟨rfl, rfl⟩ := e
  refine ⟨b, 1, rfl, hb, fun j u hu => ?_⟩
  rw [List.getElem?_drop] at hu
  have := hc (1 + j) u hu
  rw [Nat.zero_add] at this
  exact this
theorem rotR_ok {r : KeyRing} {k : Int} (h : ringOk r = true) (hk : keyOk k = true) (hf : r.First ≤ 999999) : ringOk (rotR r k) = true := by
  obtain ⟨h1, h2, h3, h4, h5⟩ := ringOk_parts h
  have hall : ∀ x ∈ r.Secrets ++ [k], keyOk x = true := fun x hx => by
    rcases List.mem_append.1 hx with hx | hx
    · exact h5 x hx
    · rw [List.mem_singleton.1 hx]; exact hk
  by_cases hn : 12 ≤ r.Secrets.length
  · rw [rotR_full hn]
    unfold ringOk
    simp only [Bool.and_eq_true, withinB_iff, List.all_eq_true, List.length_drop, List.length_append, List.length_singleton]
    exact ⟨by omega, by omega, fun x hx => hall x (List.mem_of_mem_drop hx)⟩
  · rw [rotR_more hn]
    unfold ringOk
    simp only [Bool.and_eq_true, withinB_iff, List.all_eq_true, List.length_append, List.length_singleton]
    exact ⟨by omega, by omega, hall⟩
end Go.Proofs.Ytlncnicpiadaaaa

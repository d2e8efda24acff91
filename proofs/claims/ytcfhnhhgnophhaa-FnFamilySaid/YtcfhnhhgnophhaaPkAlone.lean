/- slices.Delete of a row of tokens (turned from the row of timers); a slice under construction that loses an element. A finished slice that owns its row and its elements in [lo, hi): stores into it, an element less. RevokeAlone, both sides. -/
import Derived.Test.YtcfhnhhgnophhaaDelete
import Derived.Test.YtcfhnhhgnophhaaGrowTok
import Derived.Test.YtcfhnhhgnophhaaPkPure
import Derived.Test.YtcfhnhhgnophhaaLess
import Derived.Test.YtcfhnhhgnophhaaForestL
set_option linter.unusedSimpArgs false
set_option linter.unusedVariables false
set_option maxRecDepth 20000
namespace Go.Proofs.Ytcfhnhhgnophhaa
open Go.RowKit
abbrev Row7 := { l : List Value // l.length = 7 ∧ ∀ u ∈ l, u.oneCell' = true }
def row7d (r : Row7) : List Value := r.1
theorem row7_len (r : Row7) : (row7d r).length = 7 := r.2.1
theorem rows7_one (rs : List Row7) : ∀ u ∈ rs.flatMap row7d, u.oneCell' = true := by
  intro u hu
  obtain ⟨r, _, h⟩ := List.mem_flatMap.1 hu
  exact r.2.2 u h
theorem grown_trans {w w1 w2 : World} {r : Option Nat} (h : w.grownBy w1 r) (h2 : w1.grownBy w2 r) : w.grownBy w2 r :=
  ⟨h2.os.trans h.os, h2.tape.trans h.tape, h2.output.trans h.output, Nat.le_trans h.size h2.size, fun k hk hr => (h2.block k (Nat.lt_of_lt_of_le hk h.size) hr).trans (h.block k hk hr)⟩
set_option maxHeartbeats 1600000 in
set_option maxRecDepth 8000 in
theorem slices_Delete_Token (base g cap : Nat) (xs : List Row7) (k : Nat) (w : World) (ho : w.ownsRow base 35 7 (.slice (some ⟨g, 0, none⟩) xs.length cap) xs.length (xs.flatMap row7d)) (hk : k < xs.length) (hm : xs.length ≤ 1073741824) :
    Calls Try.prog 42 #[.slice (some ⟨g, 0, none⟩) xs.length cap, .int .i64 k, .int .i64 ((k : Int) + 1)] w fun e w' => e = .returned (.slice (some ⟨g, 0, none⟩) (xs.length - 1) cap) ∧ w'.ownsRow base 35 7 (.slice (some ⟨g, 0, none⟩) (xs.length - 1) cap) (xs.length - 1) ((xs.take k ++ xs.drop (k + 1)).flatMap row7d) ∧ w.grownBy w' (some g) := by
  obtain ⟨i0, hi0, hI0, hI1, hI2⟩ := info_parts info_Token
  have hcap := own_cap ho
  have hcapM : cap ≤ 9223372036854775807 := by
    rcases ho.2 with ⟨hv, _⟩ | ⟨g', cap', cur, hv, _, _, _, hcm, _⟩
    · simp at hv
    · simp only [Value.slice.injEq] at hv; simp only [maxLen] at hcm; omega
  have ho1 := own_take ho (i := k) (by omega)
  rw [flat_take row7d 7 row7_len] at ho1
  have hnl : ((xs.drop (k + 1)).flatMap row7d).length = (xs.length - (k + 1)) * 7 := by rw [flat_length _ _ row7_len, List.length_drop]
  have hnews : ∀ j u, ((xs.drop (k + 1)).flatMap row7d)[j]? = some u → w.cell? ⟨g, (k + 1) * 7 + j, none⟩ = some u := by
    intro j u hu
    have hjl := (List.getElem?_eq_some_iff.1 hu).1
    rw [hnl] at hjl
    have h1 := ho.cellAt ((k + 1) * 7 + j) (by omega)
    rw [h1]
    have h2 : xs.flatMap row7d = (xs.take (k + 1)).flatMap row7d ++ (xs.drop (k + 1)).flatMap row7d := by rw [← List.flatMap_append, List.take_append_drop]
    have h3 : ((xs.take (k + 1)).flatMap row7d).length = (k + 1) * 7 := by rw [flat_length _ _ row7_len, List.length_take]; omega
    rw [h2, List.getElem?_append_right (by omega), h3, show (k + 1) * 7 + j - (k + 1) * 7 = j by omega]
    exact hu
  have HNews := Lib.hid hnews
  have HNl := Lib.hid hnl
  have H1 := Lib.hid (rows7_one (xs.drop (k + 1)))
  have HCat : Hid ((xs.take k).flatMap row7d ++ (xs.drop (k + 1)).flatMap row7d = (xs.take k ++ xs.drop (k + 1)).flatMap row7d) := Lib.hid (by rw [List.flatMap_append])
  have hzv : ∀ w, (zeroValue 35).run Try.prog w = .ok (.agg #[.int .i64 0, .int .i64 0, .slice none 0 0, .int .i64 0, .int .i64 0, .int .i64 0, .int .i64 0]) w := fun _ => by kernel_rfl
  generalize hn : xs.length = n at *
  clear hn hnews hnl ho
  by_cases hc : k + 1 = cap
  · have hc' : (cap = k + 1) = True := by simp [hc]
    have hvac : ((xs.drop (k + 1)).flatMap row7d).length = 0 := by rw [HNl.out]; omega
    have HVac := Lib.hid hvac
    clear hvac hc
    go_enter Try.func42, Try.ntmps42
    go_wp2
    have hi1 : (0 : Int) ≤ (k : Int) := by omega
    have hi2 : (k : Int) ≤ (cap : Int) := by omega
    have hi3 : (0 : Int) ≤ (k : Int) + 1 := by omega
    have hi4 : (k : Int) + 1 ≤ (n : Int) := by omega
    have hi5 : ((k : Int) + 1).toNat = k + 1 := by omega
    go_region_law (refine step_append_fits (w := w.drew) (by rfl) _ _ _ (by rfl) base 35 i0 7 Try.underlying24 hi0 hI1 g k cap _ (by rfl) (own_drew ho1) ⟨g, 0, none⟩ (n - (k + 1)) (cap - (k + 1)) ((xs.drop (k + 1)).flatMap row7d) (by rfl) HNl.out (fun j u hu => by have h1 := (List.getElem?_eq_some_iff.1 hu).1; rw [HVac.out] at h1; omega) H1.out (by omega) ?_; intro w1 ho2 hg2)
    clear hi1 hi2 hi3 hi4 hi5
    have hsum : k + (n - (k + 1)) = n - 1 := by omega
    rw [hsum] at ho2
    simp only [hsum]
    clear hsum
    have hj1 : (0 : Int) ≤ ((n - 1 : Nat) : Int) := by omega
    have hj2 : ((n - 1 : Nat) : Int) ≤ (n : Int) := by omega
    have hj3 : ¬ cap = n - 1 := by omega
    have hj4 : (n : Int) ≤ (cap : Int) := by omega
    obtain ⟨w2, hrun, ho3, hg3⟩ := run_clear_tail (P := Try.prog) (w := w1) base 24 0 35 (.agg #[.int .i64 0, .int .i64 0, .slice none 0 0, .int .i64 0, .int .i64 0, .int .i64 0, .int .i64 0]) 7 Try.underlying24 hzv rfl (by simp [Value.cells, Value.oneCell']) ho2 ⟨g, (n - 1) * 7, none⟩ (n - (n - 1)) (cap - (n - 1)) (fun _ => rfl) (by omega)
    go_wp2
    go_ret
    refine ⟨rfl, ?_, ?_⟩
    · rw [← HCat.out]; exact ho3
    · exact grown_trans (w1 := w1) ⟨hg2.os, hg2.tape, hg2.output, hg2.size, hg2.block⟩ hg3
  · have hlt : k + 1 < cap := by omega
    have hc' : ¬ cap = k + 1 := fun e => hc e.symm
    clear hc
    go_enter Try.func42, Try.ntmps42
    go_wp2
    have hi1 : (0 : Int) ≤ (k : Int) := by omega
    have hi2 : (k : Int) ≤ (cap : Int) := by omega
    have hi3 : (0 : Int) ≤ (k : Int) + 1 := by omega
    have hi4 : (k : Int) + 1 ≤ (n : Int) := by omega
    have hi5 : ((k : Int) + 1).toNat = k + 1 := by omega
    go_region_law (refine step_append_fits (w := w.drew) (by rfl) _ _ _ (by rfl) base 35 i0 7 Try.underlying24 hi0 hI1 g k cap _ (by rfl) (own_drew ho1) ⟨g, (k + 1) * 7, none⟩ (n - (k + 1)) (cap - (k + 1)) ((xs.drop (k + 1)).flatMap row7d) (by rfl) HNl.out (fun j u hu => by rw [addr_add_none]; exact HNews.out j u hu) H1.out (by omega) ?_; intro w1 ho2 hg2)
    clear hi1 hi2 hi3 hi4 hi5
    have hsum : k + (n - (k + 1)) = n - 1 := by omega
    rw [hsum] at ho2
    simp only [hsum]
    clear hsum
    have hj1 : (0 : Int) ≤ ((n - 1 : Nat) : Int) := by omega
    have hj2 : ((n - 1 : Nat) : Int) ≤ (n : Int) := by omega
    have hj3 : ¬ cap = n - 1 := by omega
    have hj4 : (n : Int) ≤ (cap : Int) := by omega
    obtain ⟨w2, hrun, ho3, hg3⟩ := run_clear_tail (P := Try.prog) (w := w1) base 24 0 35 (.agg #[.int .i64 0, .int .i64 0, .slice none 0 0, .int .i64 0, .int .i64 0, .int .i64 0, .int .i64 0]) 7 Try.underlying24 hzv rfl (by simp [Value.cells, Value.oneCell']) ho2 ⟨g, (n - 1) * 7, none⟩ (n - (n - 1)) (cap - (n - 1)) (fun _ => rfl) (by omega)
    go_wp2
    go_ret
    refine ⟨rfl, ?_, ?_⟩
    · rw [← HCat.out]; exact ho3
    · exact grown_trans (w1 := w1) ⟨hg2.os, hg2.tape, hg2.output, hg2.size, hg2.block⟩ hg3

theorem getElem?_eraseIdx' {β : Type} : ∀ (l : List β) (k i : Nat), (l.eraseIdx k)[i]? = if i < k then l[i]? else l[i + 1]?
  | [], k, i => by simp
  | x :: l, 0, i => by simp
  | x :: l, k + 1, 0 => by simp
  | x :: l, k + 1, i + 1 => by
    rw [List.eraseIdx_cons_succ, List.getElem?_cons_succ, getElem?_eraseIdx' l k i, List.getElem?_cons_succ, List.getElem?_cons_succ]
    by_cases h : i < k
    · rw [if_pos h, if_pos (by omega)]
    · rw [if_neg h, if_neg (by omega)]
theorem Grow.erase {α : Type} {R : Rep α} {e : TypeId} {w w' : World} {lo n c g k : Nat} {css : List (List Value)} {xs : List α} (h : Grow R e w lo (some ⟨g, 0, none⟩) n c css xs) (hk : k < n)
    (hrow : w'.ownsRow lo e R.m (.slice (some ⟨g, 0, none⟩) (n - 1) c) (n - 1) (css.eraseIdx k).flatten) (hg : w.grownBy w' (some g)) : Grow R e w' lo (some ⟨g, 0, none⟩) (n - 1) c (css.eraseIdx k) (xs.eraseIdx k) := by
  obtain ⟨Ss, h1, h2⟩ := h.built
  have hlen := h.len
  have hl1 := h1.all.1
  have hl2 := h1.all.2.1
  have hb := h1.out (out_of_grown hg) (fun s hs q hq hq2 => by
    simp only [Option.some.injEq] at hq2
    exact h2 s hs q (by rw [← hq2]; rfl) hq)
  refine ⟨hrow, ⟨Ss.eraseIdx k, ⟨⟨by rw [List.length_eraseIdx_of_lt (by omega), List.length_eraseIdx_of_lt (by omega), hl1], by rw [List.length_eraseIdx_of_lt (by omega), List.length_eraseIdx_of_lt (by omega), hl2], fun i S cs x q1 q2 q3 => ?_⟩, fun s hs => hb.inn s (List.eraseIdx_subset hs), hb.apart.sublist (List.eraseIdx_sublist ..)⟩, fun s hs q hq => h2 s (List.eraseIdx_subset hs) q (by simpa [Value.ownBlock] using hq)⟩, by rw [List.length_eraseIdx_of_lt (by omega)]; omega⟩
  rw [getElem?_eraseIdx'] at q1 q2 q3
  by_cases hi : i < k
  · rw [if_pos hi] at q1 q2 q3
    exact hb.all.2.2 i S cs x q1 q2 q3
  · rw [if_neg hi] at q1 q2 q3
    exact hb.all.2.2 (i + 1) S cs x q1 q2 q3
theorem eraseIdx_eq {β : Type} (l : List β) (k : Nat) : l.take k ++ l.drop (k + 1) = l.eraseIdx k := (List.eraseIdx_eq_take_drop_succ l k).symm
theorem map_row7 (rs : List Row7) : rs.flatMap row7d = (rs.map row7d).flatten := List.flatMap_def ..
theorem Grow.rows7 {w : World} {lo n c : Nat} {A : Option Addr} {css : List (List Value)} {ts : List Token} (h : Grow TokenR 35 w lo A n c css ts) : ∃ rs : List Row7, rs.map row7d = css ∧ rs.length = n := by
  obtain ⟨hl, hls⟩ := h.lens
  obtain ⟨Ss, h1, h2⟩ := h.built
  have hlen := h.len
  have key : ∀ cs ∈ css, cs.length = 7 ∧ ∀ u ∈ cs, u.oneCell' = true := by
    intro cs hcs
    obtain ⟨i, hi, rfl⟩ := List.mem_iff_getElem.1 hcs
    have h3 := h1.all.2.1
    have ho := h1.all.2.2 i _ _ _ (List.getElem?_eq_getElem (by omega)) (List.getElem?_eq_getElem hi) (List.getElem?_eq_getElem (by omega))
    obtain ⟨v, _, e, q, _⟩ := own_Token ho
    obtain ⟨D, d, rfl⟩ := q.form
    rw [e]
    exact ⟨rfl, by simp [Value.oneCell']⟩
  refine ⟨css.attach.map (fun x => ⟨x.1, key x.1 x.2⟩), ?_, by simp; omega⟩
  rw [List.map_map]
  show css.attach.map (fun x => x.1) = css
  exact List.attach_map_subtype_val css
theorem slices_Delete_Grow {w : World} {lo n c g k : Nat} {css : List (List Value)} {ts : List Token} (h : Grow TokenR 35 w lo (some ⟨g, 0, none⟩) n c css ts) (hk : k < n) (hm : n ≤ 1073741824) :
    Calls Try.prog 42 #[.slice (some ⟨g, 0, none⟩) n c, .int .i64 k, .int .i64 ((k : Int) + 1)] w fun e w' => e = .returned (.slice (some ⟨g, 0, none⟩) (n - 1) c) ∧ Grow TokenR 35 w' lo (some ⟨g, 0, none⟩) (n - 1) c (css.eraseIdx k) (ts.eraseIdx k) ∧ w.grownBy w' (some g) := by
  obtain ⟨rs, hrs, hrl⟩ := h.rows7
  have hrow : w.ownsRow lo 35 7 (.slice (some ⟨g, 0, none⟩) n c) n css.flatten := h.row
  rw [← hrs, ← map_row7, ← hrl] at hrow
  have hd := slices_Delete_Token lo g c rs k w hrow (by omega) (by omega)
  rw [hrl] at hd
  refine hd.mono fun e w' ⟨h1, h2, h3⟩ => ⟨h1, h.erase hk ?_ h3, h3⟩
  rw [map_row7, List.map_append, List.map_take, List.map_drop, hrs, eraseIdx_eq] at h2
  exact h2
end Go.Proofs.Ytcfhnhhgnophhaa
namespace Go.Proofs.Ytcfhnhhgnophhaa
open Go.RowKit
structure GrowIn {α : Type} (R : Rep α) (e : TypeId) (w : World) (lo hi : Nat) (A : Option Addr) (n c : Nat) (css : List (List Value)) (xs : List α) : Prop where
  row : w.ownsRow lo e R.m (.slice A n c) n css.flatten
  rlt : ∀ g, (Value.slice A n c).ownBlock = some g → g < hi
  built : ∃ Ss, Built R w lo Ss css xs ∧ (∀ s ∈ Ss, ∀ g, s g → g < hi) ∧ ∀ s ∈ Ss, ∀ g, (Value.slice A n c).ownBlock = some g → ¬ s g
  len : n = xs.length
section
variable {α : Type} {R : Rep α} {e : TypeId} {w w' : World} {lo hi n c g : Nat} {A : Option Addr} {css : List (List Value)} {xs : List α}
theorem Grow.inn (h : Grow R e w lo A n c css xs) : GrowIn R e w lo w.heap.size A n c css xs := by
  obtain ⟨Ss, h1, h2⟩ := h.built
  exact ⟨h.row, fun g hg => (h.row.lt g hg).2, ⟨Ss, h1, fun s hs g hg => (h1.inn s hs g hg).2, h2⟩, h.len⟩
theorem GrowIn.grow (h : GrowIn R e w lo hi A n c css xs) : Grow R e w lo A n c css xs := by
  obtain ⟨Ss, h1, h2, h3⟩ := h.built
  exact ⟨h.row, ⟨Ss, h1, h3⟩, h.len⟩
theorem GrowIn.out (h : GrowIn R e w lo hi A n c css xs) (ho : Out (Off lo hi) w w') : GrowIn R e w' lo hi A n c css xs := by
  obtain ⟨Ss, h1, h2, h3⟩ := h.built
  refine ⟨?_, h.rlt, ⟨Ss, h1.out ho (fun s hs q hq h4 => by have h5 := (h1.inn s hs q hq).1; have h6 := h2 s hs q hq; rcases h4 with h4 | h4 <;> omega), h2, h3⟩, h.len⟩
  refine ⟨h.row.1, ?_⟩
  rcases h.row.2 with hn | ⟨q, cap, cur, hv, h0, hg, rest⟩
  · exact .inl hn
  · refine .inr ⟨q, cap, cur, hv, h0, ?_, rest⟩
    have hq : q < hi := h.rlt q (by rw [hv]; rfl)
    rw [ho.block q (Array.getElem?_eq_some_iff.1 hg).1 (fun h4 => by rcases h4 with h4 | h4 <;> omega)]
    exact hg
theorem GrowIn.sl (h : GrowIn R e w lo hi A n c css xs) (hm : 0 < R.m) : SlOwn R e w (InR lo hi) (.slice A n c) xs := by
  obtain ⟨hl, hls⟩ := h.grow.lens
  obtain ⟨Ss, h1, h2, h3⟩ := h.built
  have hrow := h.row
  have hlen := h.len
  have hrl := h.rlt
  subst hlen
  have hc : xs.length ≤ c := own_cap hrow
  have hc2 : c ≤ 9223372036854775807 := by
    rcases hrow.2 with ⟨hv, hn⟩ | ⟨g, cap, cur, hv, _, _, _, hcm, _⟩
    · simp only [Value.slice.injEq] at hv; omega
    · simp only [Value.slice.injEq] at hv; simp only [maxLen] at hcm; omega
  exact h1.own (Rows.of_own hrow hls hl hm) hc hc2 (fun g hg => ⟨(own_inR hrow g hg).1, hrl g hg⟩) (fun s hs g hg => ⟨⟨(h1.inn s hs g hg).1, h2 s hs g hg⟩, fun hg2 => h3 s hs g hg2 hg⟩)
theorem GrowIn.set (h : GrowIn R e w lo hi (some ⟨g, 0, none⟩) n c css xs) {i k : Nat} {x x' : α} {cs : List Value} (hi' : xs[i]? = some x) (hcs : css[i]? = some cs) (hk : k < R.m) (u : Value)
    (hx : ∀ (w' : World) (S : Nat → Prop), R.Own w' S cs x → R.Own w' S (cs.set k u) x') : GrowIn R e (w.setCell ⟨g, i * R.m + k, none⟩ u) lo hi (some ⟨g, 0, none⟩) n c (css.set i (cs.set k u)) (xs.set i x') := by
  obtain ⟨hl, hls⟩ := h.grow.lens
  obtain ⟨Ss, h1, h2, h3⟩ := h.built
  have hrow := h.row
  have hO : Out (fun q => q = g) w (w.setCell ⟨g, i * R.m + k, none⟩ u) := Out.setCell (S := fun q => q = g) (Out.refl _ w) (p := ⟨g, i * R.m + k, none⟩) rfl u
  have hne : ∀ s ∈ Ss, ∀ q, s q → ¬ q = g := fun s hs q hq e => h3 s hs q (by rw [e]; rfl) hq
  have hix := (List.getElem?_eq_some_iff.1 hi').1
  have hS := List.getElem?_eq_getElem (l := Ss) (i := i) (by rw [h1.all.2.1]; exact hix)
  refine ⟨?_, h.rlt, ⟨Ss, ⟨?_, fun s hs q hq => ⟨(h1.inn s hs q hq).1, by have := (h1.inn s hs q hq).2; simpa using this⟩, h1.apart⟩, h2, h3⟩, by rw [List.length_set]; exact h.len⟩
  · rw [flatten_set hk u css i cs hls hcs]
    exact (hrow.stored (i * R.m + k) u).1
  · exact h1.all.set hS hO (fun j s _ hj q hq => hne s (List.mem_of_getElem? hj) q hq) (hx _ _ (R.own_out (h1.all.2.2 i _ _ _ hS hcs hi') hO (fun q hq => hne _ (List.mem_of_getElem? hS) q hq)))
theorem GrowIn.erase {k : Nat} (h : GrowIn R e w lo hi (some ⟨g, 0, none⟩) n c css xs) (hk : k < n)
    (hrow : w'.ownsRow lo e R.m (.slice (some ⟨g, 0, none⟩) (n - 1) c) (n - 1) (css.eraseIdx k).flatten) (hg : w.grownBy w' (some g)) : GrowIn R e w' lo hi (some ⟨g, 0, none⟩) (n - 1) c (css.eraseIdx k) (xs.eraseIdx k) := by
  obtain ⟨Ss, h1, h2, h3⟩ := h.built
  have hlen := h.len
  have hl1 := h1.all.1
  have hl2 := h1.all.2.1
  have hb := h1.out (out_of_grown hg) (fun s hs q hq hq2 => by
    simp only [Option.some.injEq] at hq2
    exact h3 s hs q (by rw [← hq2]; rfl) hq)
  refine ⟨hrow, fun q hq => h.rlt q (by simpa [Value.ownBlock] using hq), ⟨Ss.eraseIdx k, ⟨⟨by rw [List.length_eraseIdx_of_lt (by omega), List.length_eraseIdx_of_lt (by omega), hl1], by rw [List.length_eraseIdx_of_lt (by omega), List.length_eraseIdx_of_lt (by omega), hl2], fun i S cs x q1 q2 q3 => ?_⟩, fun s hs => hb.inn s (List.eraseIdx_subset hs), hb.apart.sublist (List.eraseIdx_sublist ..)⟩, fun s hs => h2 s (List.eraseIdx_subset hs), fun s hs q hq => h3 s (List.eraseIdx_subset hs) q (by simpa [Value.ownBlock] using hq)⟩, by rw [List.length_eraseIdx_of_lt (by omega)]; omega⟩
  rw [getElem?_eraseIdx'] at q1 q2 q3
  by_cases hi : i < k
  · rw [if_pos hi] at q1 q2 q3
    exact hb.all.2.2 i S cs x q1 q2 q3
  · rw [if_neg hi] at q1 q2 q3
    exact hb.all.2.2 (i + 1) S cs x q1 q2 q3
end
theorem GrowIn.forest {w : World} {lo hi n c : Nat} {A : Option Addr} {css : List (List Value)} {ts : List Token} (h : GrowIn TokenR 35 w lo hi A n c css ts) : ForestR.Own w (InR lo hi) [.slice A n c] ⟨ts⟩ := by
  have h1 := h.sl (by decide)
  have hl := h.len
  subst hl
  exact of_own_Forest (x := ⟨ts⟩) h1 (fun _ h => h)
theorem slices_Delete_GrowIn {w : World} {lo hi n c g k : Nat} {css : List (List Value)} {ts : List Token} (h : GrowIn TokenR 35 w lo hi (some ⟨g, 0, none⟩) n c css ts) (hk : k < n) (hm : n ≤ 1073741824) :
    Calls Try.prog 42 #[.slice (some ⟨g, 0, none⟩) n c, .int .i64 k, .int .i64 ((k : Int) + 1)] w fun e w' => e = .returned (.slice (some ⟨g, 0, none⟩) (n - 1) c) ∧ GrowIn TokenR 35 w' lo hi (some ⟨g, 0, none⟩) (n - 1) c (css.eraseIdx k) (ts.eraseIdx k) ∧ w.grownBy w' (some g) :=
  (slices_Delete_Grow h.grow hk hm).mono fun e w' ⟨h1, h2, h3⟩ => ⟨h1, h.erase hk h2.row h3, h3⟩
end Go.Proofs.Ytcfhnhhgnophhaa
namespace Go.Proofs.Ytcfhnhhgnophhaa
open Go.RowKit
set_option maxRecDepth 20000 in
set_option maxHeartbeats 6400000 in
theorem impl_RevokeAloneL (cs : List Value) (f : Forest) (id : Int) (w : World) (h : ForestR.Rd w w.heap.size cs f) (hm : ForestR.sz f ≤ 1048576) :
    Calls Try.prog 18 #[.agg cs.toArray, .int .i64 id] w fun e w' => ∃ cs', e = .returned (.tuple #[.agg cs'.toArray, .bool (findOk f.Tokens id)]) ∧ ForestR.Own w' (InR w.heap.size w'.heap.size) cs' ⟨aloneT f.Tokens id⟩ ∧ Below w.heap.size w w' := by
  obtain ⟨v0, rfl, q0⟩ := rd_Forest (_root_.id h)
  obtain ⟨A, c, rfl⟩ := q0.form
  have HOk := Lib.hid (fun (w' : World) (h : ForestR.Rd w' w'.heap.size [.slice A f.Tokens.length c] f) => impl_isForestL _ f w' h hm)
  have HR := Lib.hid (fun (w' : World) (hb : Below w.heap.size w w') (hz : w.heap.size ≤ w'.heap.size) => ForestR.rd_keep h hb hz)
  have HRs := Lib.hid (fun (w' : World) (hb : Below w.heap.size w w') (hz : w.heap.size ≤ w'.heap.size) => q0.keep hb hz)
  rw [sz_Forest] at hm
  have hml : f.Tokens.length ≤ 1048576 := Nat.le_trans (Nat.le_add_right _ _) hm
  have HCl := Lib.hid (fun (w' : World) (h : SlRd TokenR w' w'.heap.size (.slice A f.Tokens.length c) f.Tokens) => impl_cloneForest A c f.Tokens w' h hm)
  have HAt := Lib.hid (fun (i : Int) (w' : World) (h : SlRd TokenR w' w'.heap.size (.slice A f.Tokens.length c) f.Tokens) => impl_tokenIndex A c f.Tokens i w' h hm)
  clear h q0 hm
  generalize hT : f.Tokens = ts at *
  clear hT
  generalize hn : ts.length = n at *
  have Hn := Lib.hid hn
  clear hn
  go_enter Try.func18, Try.ntmps18
  go_wp2_with fail
  refine (HCl.out _ (HRs.out _ (by (repeat (first | (with_reducible exact Below.refl _ _) | (with_reducible assumption) | ((with_reducible refine Below.setCell ?_ ?_ _); rotate_left; focus (first | omega | (simp; done) | (simp; omega))) | ((with_reducible refine Below.alloc ?_ ?_ _); rotate_left; focus (first | omega | (simp; done) | (simp; omega))) | (with_reducible refine Below.drew ?_) | (with_reducible refine below_drewN ?_ _) | (refine Below.trans ?_ (Below.mono (by with_reducible assumption) (by (first | omega | (simp; done) | (simp; omega)))))))) (by first | omega | (simp; done) | (simp; omega)))).mono ?_
  rintro e w1 ⟨D, d, css, rfl, G, hb1⟩
  have hz1 := hb1.size; try simp at hz1
  have BK0 : Blk w1 w.heap.size 26 #[.slice A n c] := by (repeat (first | (with_reducible assumption) | ((with_reducible refine Blk.new' ?_); focus (simp; done)) | (with_reducible refine Blk.alloc ?_ _) | (with_reducible refine Blk.drew ?_) | (with_reducible refine Blk.drewN ?_ _) | ((with_reducible refine Blk.far ?_ ?_ _); rotate_left; focus (first | omega | (simp; done) | (simp; omega))) | (refine Blk.keep ?_ (by with_reducible assumption)) | (refine Blk.below ?_ (by with_reducible assumption) (by (first | omega | (simp; done) | (simp; omega))))))
  have BK1 : Blk w1 (w.heap.size + 1) 26 #[.slice none 0 0] := by (repeat (first | (with_reducible assumption) | ((with_reducible refine Blk.new' ?_); focus (simp; done)) | (with_reducible refine Blk.alloc ?_ _) | (with_reducible refine Blk.drew ?_) | (with_reducible refine Blk.drewN ?_ _) | ((with_reducible refine Blk.far ?_ ?_ _); rotate_left; focus (first | omega | (simp; done) | (simp; omega))) | (refine Blk.keep ?_ (by with_reducible assumption)) | (refine Blk.below ?_ (by with_reducible assumption) (by (first | omega | (simp; done) | (simp; omega))))))
  have hc0 := BK0.cell; have hf0 := BK0.frozen; have hl0 := BK0.lt; have hc1 := BK1.cell; have hf1 := BK1.frozen; have hl1 := BK1.lt
  go_wp2_with fail
  refine (HAt.out id _ (HRs.out _ (by (repeat (first | (with_reducible exact Below.refl _ _) | (with_reducible assumption) | ((with_reducible refine Below.setCell ?_ ?_ _); rotate_left; focus (first | omega | (simp; done) | (simp; omega))) | ((with_reducible refine Below.alloc ?_ ?_ _); rotate_left; focus (first | omega | (simp; done) | (simp; omega))) | (with_reducible refine Below.drew ?_) | (with_reducible refine below_drewN ?_ _) | (refine Below.trans ?_ (Below.mono (by with_reducible assumption) (by (first | omega | (simp; done) | (simp; omega)))))))) (by first | omega | (simp; done) | (simp; omega)))).mono ?_
  rintro e w2 ⟨rfl, hb2⟩
  have hz2 := hb2.size; try simp at hz2
  replace BK0 : Blk w2 w.heap.size 26 #[.slice A n c] := by (repeat (first | (with_reducible assumption) | ((with_reducible refine Blk.new' ?_); focus (simp; done)) | (with_reducible refine Blk.alloc ?_ _) | (with_reducible refine Blk.drew ?_) | (with_reducible refine Blk.drewN ?_ _) | ((with_reducible refine Blk.far ?_ ?_ _); rotate_left; focus (first | omega | (simp; done) | (simp; omega))) | (refine Blk.keep ?_ (by with_reducible assumption)) | (refine Blk.below ?_ (by with_reducible assumption) (by (first | omega | (simp; done) | (simp; omega))))))
  replace BK1 : Blk w2 (w.heap.size + 1) 26 #[.slice none 0 0] := by (repeat (first | (with_reducible assumption) | ((with_reducible refine Blk.new' ?_); focus (simp; done)) | (with_reducible refine Blk.alloc ?_ _) | (with_reducible refine Blk.drew ?_) | (with_reducible refine Blk.drewN ?_ _) | ((with_reducible refine Blk.far ?_ ?_ _); rotate_left; focus (first | omega | (simp; done) | (simp; omega))) | (refine Blk.keep ?_ (by with_reducible assumption)) | (refine Blk.below ?_ (by with_reducible assumption) (by (first | omega | (simp; done) | (simp; omega))))))
  have BKO : Blk w2 w1.heap.size 26 #[.slice D n d] := by (repeat (first | (with_reducible assumption) | ((with_reducible refine Blk.new' ?_); focus (simp; done)) | (with_reducible refine Blk.alloc ?_ _) | (with_reducible refine Blk.drew ?_) | (with_reducible refine Blk.drewN ?_ _) | ((with_reducible refine Blk.far ?_ ?_ _); rotate_left; focus (first | omega | (simp; done) | (simp; omega))) | (refine Blk.keep ?_ (by with_reducible assumption)) | (refine Blk.below ?_ (by with_reducible assumption) (by (first | omega | (simp; done) | (simp; omega))))))
  replace hc0 := BK0.cell; replace hf0 := BK0.frozen; replace hl0 := BK0.lt; replace hc1 := BK1.cell; replace hf1 := BK1.frozen; replace hl1 := BK1.lt
  go_wp2_with fail
  refine (HOk.out _ (HR.out _ (by (repeat (first | (with_reducible exact Below.refl _ _) | (with_reducible assumption) | ((with_reducible refine Below.setCell ?_ ?_ _); rotate_left; focus (first | omega | (simp; done) | (simp; omega))) | ((with_reducible refine Below.alloc ?_ ?_ _); rotate_left; focus (first | omega | (simp; done) | (simp; omega))) | (with_reducible refine Below.drew ?_) | (with_reducible refine below_drewN ?_ _) | (refine Below.trans ?_ (Below.mono (by with_reducible assumption) (by (first | omega | (simp; done) | (simp; omega)))))))) (by first | omega | (simp; done) | (simp; omega)))).mono ?_
  rintro e w3 ⟨rfl, hb3⟩
  have hz3 := hb3.size; try simp at hz3
  have hlo2 : w.heap.size + 2 ≤ w1.heap.size := by omega
  replace G := G.inn.out (by (repeat (first | (with_reducible exact Out.refl _ _) | (with_reducible assumption) | ((with_reducible refine Out.setCell ?_ ?_ _); rotate_left; focus (first | (refine Or.inl ?_; (first | omega | (simp; done) | (simp; omega))) | (refine Or.inr ?_; (first | omega | (simp; done) | (simp; omega))))) | (with_reducible refine Out.alloc ?_ _) | (with_reducible refine Out.drew ?_) | (with_reducible refine Out.drewN ?_ _) | (refine Out.step ?_ (by with_reducible assumption)))) : Out (Off _ _) w1 w3)
  have G0 := Lib.hid G
  replace BK1 : Blk w3 (w.heap.size + 1) 26 #[.slice none 0 0] := by (repeat (first | (with_reducible assumption) | ((with_reducible refine Blk.new' ?_); focus (simp; done)) | (with_reducible refine Blk.alloc ?_ _) | (with_reducible refine Blk.drew ?_) | (with_reducible refine Blk.drewN ?_ _) | ((with_reducible refine Blk.far ?_ ?_ _); rotate_left; focus (first | omega | (simp; done) | (simp; omega))) | (refine Blk.keep ?_ (by with_reducible assumption)) | (refine Blk.below ?_ (by with_reducible assumption) (by (first | omega | (simp; done) | (simp; omega))))))
  replace BKO : Blk w3 w1.heap.size 26 #[.slice D n d] := by (repeat (first | (with_reducible assumption) | ((with_reducible refine Blk.new' ?_); focus (simp; done)) | (with_reducible refine Blk.alloc ?_ _) | (with_reducible refine Blk.drew ?_) | (with_reducible refine Blk.drewN ?_ _) | ((with_reducible refine Blk.far ?_ ?_ _); rotate_left; focus (first | omega | (simp; done) | (simp; omega))) | (refine Blk.keep ?_ (by with_reducible assumption)) | (refine Blk.below ?_ (by with_reducible assumption) (by (first | omega | (simp; done) | (simp; omega))))))
  replace hc1 := BK1.cell; replace hf1 := BK1.frozen; replace hl1 := BK1.lt
  have hco := BKO.cell; have hfo := BKO.frozen; have hlo := BKO.lt
  clear hc0 hf0 hl0 BK0 G
  cases hok : forestOk ts
  · have HD := Lib.hid (findOk_bad (id := id) hok)
    have HN := Lib.hid (aloneT_no HD.out)
    clear hok
    go_wp2
    refine bodyPost_ret (v := .tuple #[.agg #[.slice D n d], .bool false]) (by simp [results, Try.results18, go_sem, hc1, hf1]) rfl ⟨[.slice D n d], by rw [HD.out], ?_, by (repeat (first | (with_reducible exact Below.refl _ _) | (with_reducible assumption) | ((with_reducible refine Below.setCell ?_ ?_ _); rotate_left; focus (first | omega | (simp; done) | (simp; omega))) | ((with_reducible refine Below.alloc ?_ ?_ _); rotate_left; focus (first | omega | (simp; done) | (simp; omega))) | (with_reducible refine Below.drew ?_) | (with_reducible refine below_drewN ?_ _) | (refine Below.trans ?_ (Below.mono (by with_reducible assumption) (by (first | omega | (simp; done) | (simp; omega)))))))⟩
    rw [HN.out]
    exact ForestR.own_wide ((G0.out.out (by (repeat (first | (with_reducible exact Out.refl _ _) | (with_reducible assumption) | ((with_reducible refine Out.setCell ?_ ?_ _); rotate_left; focus (first | (refine Or.inl ?_; (first | omega | (simp; done) | (simp; omega))) | (refine Or.inr ?_; (first | omega | (simp; done) | (simp; omega))))) | (with_reducible refine Out.alloc ?_ _) | (with_reducible refine Out.drew ?_) | (with_reducible refine Out.drewN ?_ _) | (refine Out.step ?_ (by with_reducible assumption)))))).forest) (inR_mono (by first | omega | (simp; done) | (simp; omega)) (by first | omega | (simp; done) | (simp; omega)))
  have HOK := Lib.hid hok
  clear hok
  by_cases hx : idxT ts id < 0
  · have HD := Lib.hid (findOk_none hx)
    have HN := Lib.hid (aloneT_no HD.out)
    go_wp2
    refine bodyPost_ret (v := .tuple #[.agg #[.slice D n d], .bool false]) (by simp [results, Try.results18, go_sem, hc1, hf1]) rfl ⟨[.slice D n d], by rw [HD.out], ?_, by (repeat (first | (with_reducible exact Below.refl _ _) | (with_reducible assumption) | ((with_reducible refine Below.setCell ?_ ?_ _); rotate_left; focus (first | omega | (simp; done) | (simp; omega))) | ((with_reducible refine Below.alloc ?_ ?_ _); rotate_left; focus (first | omega | (simp; done) | (simp; omega))) | (with_reducible refine Below.drew ?_) | (with_reducible refine below_drewN ?_ _) | (refine Below.trans ?_ (Below.mono (by with_reducible assumption) (by (first | omega | (simp; done) | (simp; omega)))))))⟩
    rw [HN.out]
    exact ForestR.own_wide ((G0.out.out (by (repeat (first | (with_reducible exact Out.refl _ _) | (with_reducible assumption) | ((with_reducible refine Out.setCell ?_ ?_ _); rotate_left; focus (first | (refine Or.inl ?_; (first | omega | (simp; done) | (simp; omega))) | (refine Or.inr ?_; (first | omega | (simp; done) | (simp; omega))))) | (with_reducible refine Out.alloc ?_ _) | (with_reducible refine Out.drew ?_) | (with_reducible refine Out.drewN ?_ _) | (refine Out.step ?_ (by with_reducible assumption)))))).forest) (inR_mono (by first | omega | (simp; done) | (simp; omega)) (by first | omega | (simp; done) | (simp; omega)))
  obtain ⟨i, t, e1, e2, e3⟩ := tok_at (Int.not_lt.1 hx)
  have hi := idxT_small e1
  rw [Hn.out] at hi
  have HD := Lib.hid (findOk_at HOK.out e1)
  have HN := Lib.hid (aloneT_yes HD.out)
  have HE := Lib.hid (erase_less HOK.out e2 e3)
  have hd : decide ((i : Int) < 0) = false := by simp
  obtain ⟨g, rfl⟩ := G0.out.grow.some_addr (by omega)
  obtain ⟨hg1, -⟩ := G0.out.row.lt g rfl
  have hg2 := G0.out.rlt g rfl
  have hgl : w.heap.size + 2 ≤ g := by simpa using hg1
  have hbw3 : Below w.heap.size w w3 := by (repeat (first | (with_reducible exact Below.refl _ _) | (with_reducible assumption) | ((with_reducible refine Below.setCell ?_ ?_ _); rotate_left; focus (first | omega | (simp; done) | (simp; omega))) | ((with_reducible refine Below.alloc ?_ ?_ _); rotate_left; focus (first | omega | (simp; done) | (simp; omega))) | (with_reducible refine Below.drew ?_) | (with_reducible refine below_drewN ?_ _) | (refine Below.trans ?_ (Below.mono (by with_reducible assumption) (by (first | omega | (simp; done) | (simp; omega)))))))
  rw [e1] at hx ⊢
  clear e1 e2 e3 hg1
  go_wp2_with fail
  refine (slices_Delete_GrowIn G0.out hi (by omega)).mono ?_
  rintro e w4 ⟨rfl, G4, hg4⟩
  have hz4 := hg4.size
  replace BK1 : Blk w4 (w.heap.size + 1) 26 #[.slice none 0 0] := BK1.grown hg4 (by simp; omega)
  replace BKO : Blk w4 w1.heap.size 26 #[.slice (some ⟨g, 0, none⟩) n d] := BKO.grown hg4 (by simp; omega)
  replace hc1 := BK1.cell; replace hf1 := BK1.frozen; replace hl1 := BK1.lt
  replace hco := BKO.cell; replace hfo := BKO.frozen; replace hlo := BKO.lt
  have hbw4 : Below w.heap.size w w4 := hbw3.grown hg4 (by omega) (fun q e => by simp at e; omega)
  rw [HE.out] at G4
  obtain ⟨xs, hxs⟩ : ∃ xs, xs = lessT ts [id] := ⟨_, rfl⟩
  rw [← hxs] at G4
  have HXs := Lib.hid hxs
  obtain ⟨m, hmn⟩ : ∃ m, m = n - 1 := ⟨_, rfl⟩
  rw [← hmn]
  rw [← hmn] at G4
  have hm1 : m ≤ 1048576 := by omega
  have G5 := Lib.hid (G4.out (by (repeat (first | (with_reducible exact Out.refl _ _) | (with_reducible assumption) | ((with_reducible refine Out.setCell ?_ ?_ _); rotate_left; focus (first | (refine Or.inl ?_; (first | omega | (simp; done) | (simp; omega))) | (refine Or.inr ?_; (first | omega | (simp; done) | (simp; omega))))) | (with_reducible refine Out.alloc ?_ _) | (with_reducible refine Out.drew ?_) | (with_reducible refine Out.drewN ?_ _) | (refine Out.step ?_ (by with_reducible assumption)))) : Out (Off _ _) w4 (w4.setCell ⟨w1.heap.size, 0, none⟩ (.slice (some ⟨g, 0, none⟩) m d))))
  have HLen := Lib.hid G4.len
  clear hxs hmn G4 G0 hx hi hb1 hb2 hb3 hg4 hbw3 hd
  have BKO5 := BKO.set_ 0 (.slice (some ⟨g, 0, none⟩) m d)
  have BK15 : Blk (w4.setCell ⟨w1.heap.size, 0, none⟩ (.slice (some ⟨g, 0, none⟩) m d)) (w.heap.size + 1) 26 #[.slice none 0 0] := by (repeat (first | (with_reducible assumption) | ((with_reducible refine Blk.new' ?_); focus (simp; done)) | (with_reducible refine Blk.alloc ?_ _) | (with_reducible refine Blk.drew ?_) | (with_reducible refine Blk.drewN ?_ _) | ((with_reducible refine Blk.far ?_ ?_ _); rotate_left; focus (first | omega | (simp; done) | (simp; omega))) | (refine Blk.keep ?_ (by with_reducible assumption)) | (refine Blk.below ?_ (by with_reducible assumption) (by (first | omega | (simp; done) | (simp; omega))))))
  have hbw5 : Below w.heap.size w (w4.setCell ⟨w1.heap.size, 0, none⟩ (.slice (some ⟨g, 0, none⟩) m d)) := by (repeat (first | (with_reducible exact Below.refl _ _) | (with_reducible assumption) | ((with_reducible refine Below.setCell ?_ ?_ _); rotate_left; focus (first | omega | (simp; done) | (simp; omega))) | ((with_reducible refine Below.alloc ?_ ?_ _); rotate_left; focus (first | omega | (simp; done) | (simp; omega))) | (with_reducible refine Below.drew ?_) | (with_reducible refine below_drewN ?_ _) | (refine Below.trans ?_ (Below.mono (by with_reducible assumption) (by (first | omega | (simp; done) | (simp; omega)))))))
  have hsz5 : w1.heap.size < (w4.setCell ⟨w1.heap.size, 0, none⟩ (.slice (some ⟨g, 0, none⟩) m d)).heap.size := by simpa using hlo
  go_wp2
  go_loopw [33] (fun i wr => ∃ (j : Nat) (css : List (List Value)), j ≤ m ∧ i = .int .i64 j ∧ Below w.heap.size w wr ∧ w1.heap.size < wr.heap.size ∧ Blk wr (w.heap.size + 1) 26 #[.slice none 0 0] ∧ Blk wr w1.heap.size 26 #[.slice (some ⟨g, 0, none⟩) m d] ∧ Hid (GrowIn TokenR 35 wr ((w.alloc (.cells #[.slice A n c] 26)).alloc (.cells #[.slice none 0 0] 26)).heap.size w1.heap.size (some ⟨g, 0, none⟩) m d css (orphK xs id j))) (fun i _ => m - (intOf i).toNat)
  case atStart => exact ⟨0, _, Nat.zero_le _, rfl, hbw5, hsz5, BK15, BKO5, by rw [orphK_zero]; exact G5⟩
  case round =>
    clear BKO5 BK15 hbw5 hsz5 G5 BK1 BKO hc1 hf1 hl1 hco hfo hlo hbw4 hz4
    obtain ⟨j, css2, hj, rfl, hb, hzr, BK1, BKO, HG⟩ := hrel
    have hc1 := BK1.cell; have hf1 := BK1.frozen; have hco := BKO.cell; have hfo := BKO.frozen
    by_cases hlt : j < m
    · have hlx : j < xs.length := by rw [← HLen.out]; exact hlt
      have HT := Lib.hid (List.getElem?_eq_getElem hlx)
      generalize xs[j]'hlx = u at HT
      clear hlx
      obtain ⟨D3, d3, hcs, hg1', hg2', hat⟩ := grow_tok HG.out.grow (orphK_get (id := id) HT.out)
      have HCs := Lib.hid hcs
      have hq := fun k v hv => (hat k v hv).1
      have hq0 := hq 0 _ rfl; have hq1 := hq 1 _ rfl; have hq2 := hq 2 _ rfl; have hq3 := hq 3 _ rfl; have hq4 := hq 4 _ rfl; have hq5 := hq 5 _ rfl; have hq6 := hq 6 _ rfl
      rw [Nat.add_zero] at hq0
      have hbW : Below wr.heap.size wr (wr.alloc (.cells #[.int .i64 u.Id, .int .i64 u.Parent, .slice D3 u.Names.length d3, .int .i64 u.Made, .int .i64 u.Ends, .int .i64 u.Limit, .int .i64 u.Uses] 35)) := by (repeat (first | (with_reducible exact Below.refl _ _) | (with_reducible assumption) | ((with_reducible refine Below.setCell ?_ ?_ _); rotate_left; focus (first | omega | (simp; done) | (simp; omega))) | ((with_reducible refine Below.alloc ?_ ?_ _); rotate_left; focus (first | omega | (simp; done) | (simp; omega))) | (with_reducible refine Below.drew ?_) | (with_reducible refine below_drewN ?_ _) | (refine Below.trans ?_ (Below.mono (by with_reducible assumption) (by (first | omega | (simp; done) | (simp; omega)))))))
      have hqa := (hbW.cell (p := ⟨g, j * 7 + 1, none⟩) hg2').trans hq1
      have hqf := (hbW.frozen (p := ⟨g, j * 7 + 1, none⟩) hg2').trans (hat 1 _ rfl).2
      have BKOW := BKO.keep hbW
      have hcw := BKOW.cell
      have GW := Lib.hid (HG.out.out (Out.of_below hbW))
      clear hcs hat hq
      cases hp : u.Parent == id
      · have HP := Lib.hid hp
        go_wp2
        go_roundw
        case rel => exact ⟨j + 1, css2, by omega, by go_num, by (repeat (first | (with_reducible exact Below.refl _ _) | (with_reducible assumption) | ((with_reducible refine Below.setCell ?_ ?_ _); rotate_left; focus (first | omega | (simp; done) | (simp; omega))) | ((with_reducible refine Below.alloc ?_ ?_ _); rotate_left; focus (first | omega | (simp; done) | (simp; omega))) | (with_reducible refine Below.drew ?_) | (with_reducible refine below_drewN ?_ _) | (refine Below.trans ?_ (Below.mono (by with_reducible assumption) (by (first | omega | (simp; done) | (simp; omega))))))), by simp; omega, by (repeat (first | (with_reducible assumption) | ((with_reducible refine Blk.new' ?_); focus (simp; done)) | (with_reducible refine Blk.alloc ?_ _) | (with_reducible refine Blk.drew ?_) | (with_reducible refine Blk.drewN ?_ _) | ((with_reducible refine Blk.far ?_ ?_ _); rotate_left; focus (first | omega | (simp; done) | (simp; omega))) | (refine Blk.keep ?_ (by with_reducible assumption)) | (refine Blk.below ?_ (by with_reducible assumption) (by (first | omega | (simp; done) | (simp; omega)))))), by (repeat (first | (with_reducible assumption) | ((with_reducible refine Blk.new' ?_); focus (simp; done)) | (with_reducible refine Blk.alloc ?_ _) | (with_reducible refine Blk.drew ?_) | (with_reducible refine Blk.drewN ?_ _) | ((with_reducible refine Blk.far ?_ ?_ _); rotate_left; focus (first | omega | (simp; done) | (simp; omega))) | (refine Blk.keep ?_ (by with_reducible assumption)) | (refine Blk.below ?_ (by with_reducible assumption) (by (first | omega | (simp; done) | (simp; omega)))))), Lib.hid (by rw [orphK_no HT.out HP.out]; exact GW.out)⟩
        case measure => simp [intOf]; omega
      · have HP := Lib.hid hp
        go_wp2
        go_roundw
        case rel =>
          have hG := (HG.out.set (orphK_get (id := id) HT.out) HCs.out (k := 1) (by decide) (.int .i64 0) (x' := noParent u) (fun _ _ h => own_cells (t' := noParent u) h rfl rfl)).out (Out.alloc (Out.refl _ _) (.cells #[.int .i64 u.Id, .int .i64 u.Parent, .slice D3 u.Names.length d3, .int .i64 u.Made, .int .i64 u.Ends, .int .i64 u.Limit, .int .i64 u.Uses] 35))
          exact ⟨j + 1, _, by omega, by go_num, by (repeat (first | (with_reducible exact Below.refl _ _) | (with_reducible assumption) | ((with_reducible refine Below.setCell ?_ ?_ _); rotate_left; focus (first | omega | (simp; done) | (simp; omega))) | ((with_reducible refine Below.alloc ?_ ?_ _); rotate_left; focus (first | omega | (simp; done) | (simp; omega))) | (with_reducible refine Below.drew ?_) | (with_reducible refine below_drewN ?_ _) | (refine Below.trans ?_ (Below.mono (by with_reducible assumption) (by (first | omega | (simp; done) | (simp; omega))))))), by simp; omega, by (repeat (first | (with_reducible assumption) | ((with_reducible refine Blk.new' ?_); focus (simp; done)) | (with_reducible refine Blk.alloc ?_ _) | (with_reducible refine Blk.drew ?_) | (with_reducible refine Blk.drewN ?_ _) | ((with_reducible refine Blk.far ?_ ?_ _); rotate_left; focus (first | omega | (simp; done) | (simp; omega))) | (refine Blk.keep ?_ (by with_reducible assumption)) | (refine Blk.below ?_ (by with_reducible assumption) (by (first | omega | (simp; done) | (simp; omega)))))), by (repeat (first | (with_reducible assumption) | ((with_reducible refine Blk.new' ?_); focus (simp; done)) | (with_reducible refine Blk.alloc ?_ _) | (with_reducible refine Blk.drew ?_) | (with_reducible refine Blk.drewN ?_ _) | ((with_reducible refine Blk.far ?_ ?_ _); rotate_left; focus (first | omega | (simp; done) | (simp; omega))) | (refine Blk.keep ?_ (by with_reducible assumption)) | (refine Blk.below ?_ (by with_reducible assumption) (by (first | omega | (simp; done) | (simp; omega)))))), Lib.hid (by rw [orphK_yes HT.out HP.out]; exact hG)⟩
        case measure => simp [intOf]; omega
    · obtain rfl : j = m := by omega
      have hfin : orphK xs id j = aloneT ts id := by rw [HN.out, ← HXs.out]; exact orphK_all (by rw [← HLen.out]; exact Nat.le_refl _)
      have HF := Lib.hid hfin
      clear hfin
      go_wp2
      refine bodyPost_ret (v := .tuple #[.agg #[.slice (some ⟨g, 0, none⟩) j d], .bool true]) (by simp [results, Try.results18, go_sem, hc1, hf1]) rfl ⟨[.slice (some ⟨g, 0, none⟩) j d], by rw [HD.out], ?_, by (repeat (first | (with_reducible exact Below.refl _ _) | (with_reducible assumption) | ((with_reducible refine Below.setCell ?_ ?_ _); rotate_left; focus (first | omega | (simp; done) | (simp; omega))) | ((with_reducible refine Below.alloc ?_ ?_ _); rotate_left; focus (first | omega | (simp; done) | (simp; omega))) | (with_reducible refine Below.drew ?_) | (with_reducible refine below_drewN ?_ _) | (refine Below.trans ?_ (Below.mono (by with_reducible assumption) (by (first | omega | (simp; done) | (simp; omega)))))))⟩
      rw [← HF.out]
      exact ForestR.own_wide ((HG.out.out (by (repeat (first | (with_reducible exact Out.refl _ _) | (with_reducible assumption) | ((with_reducible refine Out.setCell ?_ ?_ _); rotate_left; focus (first | (refine Or.inl ?_; (first | omega | (simp; done) | (simp; omega))) | (refine Or.inr ?_; (first | omega | (simp; done) | (simp; omega))))) | (with_reducible refine Out.alloc ?_ _) | (with_reducible refine Out.drew ?_) | (with_reducible refine Out.drewN ?_ _) | (refine Out.step ?_ (by with_reducible assumption)))))).forest) (inR_mono (by first | omega | (simp; done) | (simp; omega)) (by first | omega | (simp; done) | (simp; omega)))
end Go.Proofs.Ytcfhnhhgnophhaa

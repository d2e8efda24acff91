/- slices.Delete of a row of tokens (turned from the row of timers); a slice under construction that loses an element. -/
import Derived.Test.YtlmkimngkdbdhaaDelete
import Derived.Test.YtlmkimngkdbdhaaGrowTok
set_option linter.unusedSimpArgs false
set_option linter.unusedVariables false
namespace Go.Proofs.Ytlmkimngkdbdhaa
open Go.RowKit
abbrev Row7 := { l : List Value // l.length = 7 ∧ ∀ u ∈ l, u.oneCell' = true }
def row7 (r : Row7) : List Value := r.1
theorem row7_len (r : Row7) : (row7 r).length = 7 := r.2.1
theorem rows7_one (rs : List Row7) : ∀ u ∈ rs.flatMap row7, u.oneCell' = true := by
  intro u hu
  obtain ⟨r, _, h⟩ := List.mem_flatMap.1 hu
  exact r.2.2 u h
theorem grown_trans {w w1 w2 : World} {r : Option Nat} (h : w.grownBy w1 r) (h2 : w1.grownBy w2 r) : w.grownBy w2 r :=
  ⟨h2.os.trans h.os, h2.tape.trans h.tape, h2.output.trans h.output, Nat.le_trans h.size h2.size, fun k hk hr => (h2.block k (Nat.lt_of_lt_of_le hk h.size) hr).trans (h.block k hk hr)⟩
set_option maxHeartbeats 1600000 in
set_option maxRecDepth 8000 in
theorem slices_Delete_Token (base g cap : Nat) (xs : List Row7) (k : Nat) (w : World) (ho : w.ownsRow base 37 7 (.slice (some ⟨g, 0, none⟩) xs.length cap) xs.length (xs.flatMap row7)) (hk : k < xs.length) (hm : xs.length ≤ 1073741824) :
    Calls Try.prog 56 #[.slice (some ⟨g, 0, none⟩) xs.length cap, .int .i64 k, .int .i64 ((k : Int) + 1)] w fun e w' => e = .returned (.slice (some ⟨g, 0, none⟩) (xs.length - 1) cap) ∧ w'.ownsRow base 37 7 (.slice (some ⟨g, 0, none⟩) (xs.length - 1) cap) (xs.length - 1) ((xs.take k ++ xs.drop (k + 1)).flatMap row7) ∧ w.grownBy w' (some g) := by
  obtain ⟨i0, hi0, hI0, hI1, hI2⟩ := info_parts info_Token
  have hcap := own_cap ho
  have hcapM : cap ≤ 9223372036854775807 := by
    rcases ho.2 with ⟨hv, _⟩ | ⟨g', cap', cur, hv, _, _, _, hcm, _⟩
    · simp at hv
    · simp only [Value.slice.injEq] at hv; simp only [maxLen] at hcm; omega
  have ho1 := own_take ho (i := k) (by omega)
  rw [flat_take row7 7 row7_len] at ho1
  have hnl : ((xs.drop (k + 1)).flatMap row7).length = (xs.length - (k + 1)) * 7 := by rw [flat_length _ _ row7_len, List.length_drop]
  have hnews : ∀ j u, ((xs.drop (k + 1)).flatMap row7)[j]? = some u → w.cell? ⟨g, (k + 1) * 7 + j, none⟩ = some u := by
    intro j u hu
    have hjl := (List.getElem?_eq_some_iff.1 hu).1
    rw [hnl] at hjl
    have h1 := ho.cellAt ((k + 1) * 7 + j) (by omega)
    rw [h1]
    have h2 : xs.flatMap row7 = (xs.take (k + 1)).flatMap row7 ++ (xs.drop (k + 1)).flatMap row7 := by rw [← List.flatMap_append, List.take_append_drop]
    have h3 : ((xs.take (k + 1)).flatMap row7).length = (k + 1) * 7 := by rw [flat_length _ _ row7_len, List.length_take]; omega
    rw [h2, List.getElem?_append_right (by omega), h3, show (k + 1) * 7 + j - (k + 1) * 7 = j by omega]
    exact hu
  have HNews := Lib.hid hnews
  have HNl := Lib.hid hnl
  have H1 := Lib.hid (rows7_one (xs.drop (k + 1)))
  have HCat : Hid ((xs.take k).flatMap row7 ++ (xs.drop (k + 1)).flatMap row7 = (xs.take k ++ xs.drop (k + 1)).flatMap row7) := Lib.hid (by rw [List.flatMap_append])
  have hzv : ∀ w, (zeroValue 37).run Try.prog w = .ok (.agg #[.int .i64 0, .int .i64 0, .slice none 0 0, .int .i64 0, .int .i64 0, .int .i64 0, .int .i64 0]) w := fun _ => by kernel_rfl
  generalize hn : xs.length = n at *
  clear hn hnews hnl ho
  by_cases hc : k + 1 = cap
  · have hc' : (cap = k + 1) = True := by simp [hc]
    have hvac : ((xs.drop (k + 1)).flatMap row7).length = 0 := by rw [HNl.out]; omega
    have HVac := Lib.hid hvac
    clear hvac hc
    go_enter Try.func56, Try.ntmps56
    go_wp2
    have hi1 : (0 : Int) ≤ (k : Int) := by omega
    have hi2 : (k : Int) ≤ (cap : Int) := by omega
    have hi3 : (0 : Int) ≤ (k : Int) + 1 := by omega
    have hi4 : (k : Int) + 1 ≤ (n : Int) := by omega
    have hi5 : ((k : Int) + 1).toNat = k + 1 := by omega
    go_region_law (refine step_append_fits (w := w.drew) (by rfl) _ _ _ (by rfl) base 37 i0 7 Try.underlying27 hi0 hI1 g k cap _ (by rfl) (own_drew ho1) ⟨g, 0, none⟩ (n - (k + 1)) (cap - (k + 1)) ((xs.drop (k + 1)).flatMap row7) (by rfl) HNl.out (fun j u hu => by have h1 := (List.getElem?_eq_some_iff.1 hu).1; rw [HVac.out] at h1; omega) H1.out (by omega) ?_; intro w1 ho2 hg2)
    clear hi1 hi2 hi3 hi4 hi5
    have hsum : k + (n - (k + 1)) = n - 1 := by omega
    rw [hsum] at ho2
    simp only [hsum]
    clear hsum
    have hj1 : (0 : Int) ≤ ((n - 1 : Nat) : Int) := by omega
    have hj2 : ((n - 1 : Nat) : Int) ≤ (n : Int) := by omega
    have hj3 : ¬ cap = n - 1 := by omega
    have hj4 : (n : Int) ≤ (cap : Int) := by omega
    obtain ⟨w2, hrun, ho3, hg3⟩ := run_clear_tail (P := Try.prog) (w := w1) base 27 0 37 (.agg #[.int .i64 0, .int .i64 0, .slice none 0 0, .int .i64 0, .int .i64 0, .int .i64 0, .int .i64 0]) 7 Try.underlying27 hzv rfl (by simp [Value.cells, Value.oneCell']) ho2 ⟨g, (n - 1) * 7, none⟩ (n - (n - 1)) (cap - (n - 1)) (fun _ => rfl) (by omega)
    go_wp2
    go_ret
    refine ⟨rfl, ?_, ?_⟩
    · rw [← HCat.out]; exact ho3
    · exact grown_trans (w1 := w1) ⟨hg2.os, hg2.tape, hg2.output, hg2.size, hg2.block⟩ hg3
  · have hlt : k + 1 < cap := by omega
    have hc' : ¬ cap = k + 1 := fun e => hc e.symm
    clear hc
    go_enter Try.func56, Try.ntmps56
    go_wp2
    have hi1 : (0 : Int) ≤ (k : Int) := by omega
    have hi2 : (k : Int) ≤ (cap : Int) := by omega
    have hi3 : (0 : Int) ≤ (k : Int) + 1 := by omega
    have hi4 : (k : Int) + 1 ≤ (n : Int) := by omega
    have hi5 : ((k : Int) + 1).toNat = k + 1 := by omega
    go_region_law (refine step_append_fits (w := w.drew) (by rfl) _ _ _ (by rfl) base 37 i0 7 Try.underlying27 hi0 hI1 g k cap _ (by rfl) (own_drew ho1) ⟨g, (k + 1) * 7, none⟩ (n - (k + 1)) (cap - (k + 1)) ((xs.drop (k + 1)).flatMap row7) (by rfl) HNl.out (fun j u hu => by rw [addr_add_none]; exact HNews.out j u hu) H1.out (by omega) ?_; intro w1 ho2 hg2)
    clear hi1 hi2 hi3 hi4 hi5
    have hsum : k + (n - (k + 1)) = n - 1 := by omega
    rw [hsum] at ho2
    simp only [hsum]
    clear hsum
    have hj1 : (0 : Int) ≤ ((n - 1 : Nat) : Int) := by omega
    have hj2 : ((n - 1 : Nat) : Int) ≤ (n : Int) := by omega
    have hj3 : ¬ cap = n - 1 := by omega
    have hj4 : (n : Int) ≤ (cap : Int) := by omega
    obtain ⟨w2, hrun, ho3, hg3⟩ := run_clear_tail (P := Try.prog) (w := w1) base 27 0 37 (.agg #[.int .i64 0, .int .i64 0, .slice none 0 0, .int .i64 0, .int .i64 0, .int .i64 0, .int .i64 0]) 7 Try.underlying27 hzv rfl (by simp [Value.cells, Value.oneCell']) ho2 ⟨g, (n - 1) * 7, none⟩ (n - (n - 1)) (cap - (n - 1)) (fun _ => rfl) (by omega)
    go_wp2
    go_ret
    refine ⟨rfl, ?_, ?_⟩
    · rw [← HCat.out]; exact ho3
    · exact grown_trans (w1 := w1) ⟨hg2.os, hg2.tape, hg2.output, hg2.size, hg2.block⟩ hg3

theorem getElem?_eraseIdx' {β : Type} : ∀ (l : List β) (k i : Nat), (l.eraseIdx k)[i]? = if i < k then l[i]? else l[i + 1]?
  | [], k, i => by simp
  | x :: l, 0, i => by simp
  | x :: l, k + 1, 0 => by simp
  | x :: l, k + 1, i + 1 => by
    rw [List.eraseIdx_cons_succ, List.getElem?_cons_succ, getElem?_eraseIdx' l k i, List.getElem?_cons_succ, List.getElem?_cons_succ]
    by_cases h : i < k
    · rw [if_pos h, if_pos (by omega)]
    · rw [if_neg h, if_neg (by omega)]
theorem Grow.erase {α : Type} {R : Rep α} {e : TypeId} {w w' : World} {lo n c g k : Nat} {css : List (List Value)} {xs : List α} (h : Grow R e w lo (some ⟨g, 0, none⟩) n c css xs) (hk : k < n)
    (hrow : w'.ownsRow lo e R.m (.slice (some ⟨g, 0, none⟩) (n - 1) c) (n - 1) (css.eraseIdx k).flatten) (hg : w.grownBy w' (some g)) : Grow R e w' lo (some ⟨g, 0, none⟩) (n - 1) c (css.eraseIdx k) (xs.eraseIdx k) := by
  obtain ⟨Ss, h1, h2⟩ := h.built
  have hlen := h.len
  have hl1 := h1.all.1
  have hl2 := h1.all.2.1
  have hb := h1.out (out_of_grown hg) (fun s hs q hq hq2 => by
    simp only [Option.some.injEq] at hq2
    exact h2 s hs q (by rw [← hq2]; rfl) hq)
  refine ⟨hrow, ⟨Ss.eraseIdx k, ⟨⟨by rw [List.length_eraseIdx_of_lt (by omega), List.length_eraseIdx_of_lt (by omega), hl1], by rw [List.length_eraseIdx_of_lt (by omega), List.length_eraseIdx_of_lt (by omega), hl2], fun i S cs x q1 q2 q3 => ?_⟩, fun s hs => hb.inn s (List.eraseIdx_subset hs), hb.apart.sublist (List.eraseIdx_sublist ..)⟩, fun s hs q hq => h2 s (List.eraseIdx_subset hs) q (by simpa [Value.ownBlock] using hq)⟩, by rw [List.length_eraseIdx_of_lt (by omega)]; omega⟩
  rw [getElem?_eraseIdx'] at q1 q2 q3
  by_cases hi : i < k
  · rw [if_pos hi] at q1 q2 q3
    exact hb.all.2.2 i S cs x q1 q2 q3
  · rw [if_neg hi] at q1 q2 q3
    exact hb.all.2.2 (i + 1) S cs x q1 q2 q3
theorem eraseIdx_eq {β : Type} (l : List β) (k : Nat) : l.take k ++ l.drop (k + 1) = l.eraseIdx k := (List.eraseIdx_eq_take_drop_succ l k).symm
theorem map_row7 (rs : List Row7) : rs.flatMap row7 = (rs.map row7).flatten := List.flatMap_def ..
theorem Grow.rows7 {w : World} {lo n c : Nat} {A : Option Addr} {css : List (List Value)} {ts : List Token} (h : Grow TokenR 37 w lo A n c css ts) : ∃ rs : List Row7, rs.map row7 = css ∧ rs.length = n := by
  obtain ⟨hl, hls⟩ := h.lens
  obtain ⟨Ss, h1, h2⟩ := h.built
  have hlen := h.len
  have key : ∀ cs ∈ css, cs.length = 7 ∧ ∀ u ∈ cs, u.oneCell' = true := by
    intro cs hcs
    obtain ⟨i, hi, rfl⟩ := List.mem_iff_getElem.1 hcs
    have h3 := h1.all.2.1
    have ho := h1.all.2.2 i _ _ _ (List.getElem?_eq_getElem (by omega)) (List.getElem?_eq_getElem hi) (List.getElem?_eq_getElem (by omega))
    obtain ⟨v, _, e, q, _⟩ := own_Token ho
    obtain ⟨D, d, rfl⟩ := q.form
    rw [e]
    exact ⟨rfl, by simp [Value.oneCell']⟩
  refine ⟨css.attach.map (fun x => ⟨x.1, key x.1 x.2⟩), ?_, by simp; omega⟩
  rw [List.map_map]
  show css.attach.map (fun x => x.1) = css
  exact List.attach_map_subtype_val css
theorem slices_Delete_Grow {w : World} {lo n c g k : Nat} {css : List (List Value)} {ts : List Token} (h : Grow TokenR 37 w lo (some ⟨g, 0, none⟩) n c css ts) (hk : k < n) (hm : n ≤ 1073741824) :
    Calls Try.prog 56 #[.slice (some ⟨g, 0, none⟩) n c, .int .i64 k, .int .i64 ((k : Int) + 1)] w fun e w' => e = .returned (.slice (some ⟨g, 0, none⟩) (n - 1) c) ∧ Grow TokenR 37 w' lo (some ⟨g, 0, none⟩) (n - 1) c (css.eraseIdx k) (ts.eraseIdx k) ∧ w.grownBy w' (some g) := by
  obtain ⟨rs, hrs, hrl⟩ := h.rows7
  have hrow : w.ownsRow lo 37 7 (.slice (some ⟨g, 0, none⟩) n c) n css.flatten := h.row
  rw [← hrs, ← map_row7, ← hrl] at hrow
  have hd := slices_Delete_Token lo g c rs k w hrow (by omega) (by omega)
  rw [hrl] at hd
  refine hd.mono fun e w' ⟨h1, h2, h3⟩ => ⟨h1, h.erase hk ?_ h3, h3⟩
  rw [map_row7, List.map_append, List.map_take, List.map_drop, hrs, eraseIdx_eq] at h2
  exact h2
end Go.Proofs.Ytlmkimngkdbdhaa

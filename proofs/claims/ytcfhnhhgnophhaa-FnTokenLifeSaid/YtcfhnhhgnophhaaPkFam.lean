/- The two results of revoking and sweeping, read. The laws' helper over integers: same. within of the laws: whether an integer is in a slice. What FnFamily says of forests, as plain data. -/
import Derived.Test.YtcfhnhhgnophhaaPair
import Derived.Test.YtcfhnhhgnophhaaImplWithin
import Derived.Test.YtcfhnhhgnophhaaIntS2
import Derived.Test.YtcfhnhhgnophhaaHas
import Derived.Test.YtcfhnhhgnophhaaPureSweep
set_option linter.unusedSimpArgs false
set_option linter.unusedVariables false
set_option maxRecDepth 20000
namespace Go.Proofs.Ytcfhnhhgnophhaa
open Go.RowKit
theorem pair_rd {w : World} {lo : Nat} {cs : List Value} {ts : List Token} {v : Value} {ys : List Int} (h : Pair w lo cs ⟨ts⟩ v ys) : ∃ A c B d, cs = [.slice A ts.length c] ∧ v = .slice B ys.length d ∧ SlRd TokenR w w.heap.size (.slice A ts.length c) ts ∧ Reads w w.heap.size B (ys.map intV) := by
  obtain ⟨Sa, Sb, h1, h2, sa, sb, -⟩ := h
  obtain ⟨v0, S0, rfl, q, hs⟩ := own_Forest h1
  obtain ⟨A, c, rfl⟩ := q.form
  obtain ⟨B, d, rfl⟩ := h2.form
  exact ⟨A, c, B, d, rfl, rfl, q.rd (fun g hg => (sa g (hs g hg)).2), (rd_IntS (h2.rd (fun g hg => (sb g hg).2))).2.1⟩
end Go.Proofs.Ytcfhnhhgnophhaa
namespace Go.Proofs.Ytcfhnhhgnophhaa
open Go.RowKit
set_option maxHeartbeats 800000 in
theorem laws_same (A A' : Option Addr) (c c' n : Nat) (xs : List Int) (w : World) (hr : Reads w w.heap.size A (xs.map intV)) (hr' : Reads w w.heap.size A' (xs.map intV)) (hn : xs.length = n) (hm : n ≤ 1073741824) :
    Calls Try.prog 15 #[.slice A n c, .slice A' n c'] w fun e w' => e = .returned (.bool true) ∧ Below w.heap.size w w' := by
  have Hn := Lib.hid hn
  clear hn
  go_enter Try.func15, Try.ntmps15
  go_wp2
  go_loopw [5] (fun i wr => ∃ k : Nat, k ≤ n ∧ i = .int .i64 k ∧ Below w.heap.size w wr) (fun i _ => n - (intOf i).toNat)
  case atStart => exact ⟨0, Nat.zero_le _, rfl, by (repeat (first | (with_reducible exact Below.refl _ _) | (with_reducible assumption) | ((with_reducible refine Below.setCell ?_ ?_ _); rotate_left; focus (first | omega | (simp; done) | (simp; omega))) | ((with_reducible refine Below.alloc ?_ ?_ _); rotate_left; focus (first | omega | (simp; done) | (simp; omega))) | (with_reducible refine Below.drew ?_) | (with_reducible refine below_drewN ?_ _) | (refine Below.trans ?_ (Below.mono (by with_reducible assumption) (by (first | omega | (simp; done) | (simp; omega)))))))⟩
  case round =>
    obtain ⟨k, hk, rfl, hb⟩ := hrel
    by_cases hlt : k < n
    · have hlx : k < (xs.map intV).length := by simpa [Hn.out] using hlt
      obtain ⟨b, off, rfl, hab, hc1⟩ := hr.at_ hlx hb (Nat.le_refl _)
      obtain ⟨b', off', rfl, hab', hc2⟩ := hr'.at_ hlx hb (Nat.le_refl _)
      rw [List.getElem_map] at hc1 hc2
      generalize xs[k]'(by simpa using hlx) = u at hc1 hc2
      clear hlx
      simp only [intV] at hc1 hc2
      have q1 := later_cell hc1
      have q2 := later_cell hc2
      go_wp2_with fail
      refine wp_region_later (by kernel_rfl) (by kernel_rfl) ?_
      repeat (first | go_big_quiet_step (fail) | quiet_step (fail))
      refine wpQuiet_nil ?_
      intro w3 hb3
      have hzr := hb.size
      go_wp2
      go_roundw
      case rel => exact ⟨k + 1, by omega, by go_num, hb.trans (hb3.mono hzr)⟩
      case measure => simp [intOf]; omega
    · go_wp2
      go_ret
      exact ⟨rfl, hb⟩
end Go.Proofs.Ytcfhnhhgnophhaa
namespace Go.Proofs.Ytcfhnhhgnophhaa
open Go.RowKit
set_option maxHeartbeats 800000 in
theorem laws_within (A : Option Addr) (c : Nat) (xs : List Int) (x : Int) (w : World) (hr : Reads w w.heap.size A (xs.map intV)) (hm : xs.length ≤ 140737488351232) :
    Calls Try.prog 10 #[.slice A xs.length c, .int .i64 x] w fun e w' => e = .returned (.bool (hasB xs x)) ∧ w = w' := by
  generalize hn : xs.length = n at hm
  have Hn := Lib.hid hn
  clear hn
  go_enter Try.func10, Try.ntmps10
  go_wp2
  go_loop [5] (fun i => ∃ k : Nat, k ≤ n ∧ i = .int .i64 k ∧ Hid ((xs.take k).any (fun y => y == x) = false)) (fun i => n - (intOf i).toNat)
  case atStart => exact ⟨0, Nat.zero_le _, rfl, Lib.hid rfl⟩
  case round =>
    obtain ⟨k, hk, rfl, hinv⟩ := hrel
    by_cases hlt : k < n
    · have hlx : k < xs.length := by rw [Hn.out]; exact hlt
      obtain ⟨b, off, rfl, hab, hc1⟩ := hr.at_ (by simpa using hlx) (Below.refl _ _) (Nat.le_refl _)
      rw [List.getElem_map] at hc1
      have HG := Lib.hid (List.getElem?_eq_getElem hlx)
      generalize xs[k]'hlx = y at hc1 HG
      simp only [intV] at hc1
      clear hlx
      cases he : y == x
      · have HE := Lib.hid he
        go_wp2
        go_round
        case rel => exact ⟨k + 1, by omega, by go_num, Lib.hid (by rw [any_snoc HG.out, hinv.out, HE.out]; rfl)⟩
        case measure => simp [intOf]; omega
      · have HE := Lib.hid he
        go_wp2
        go_ret
        exact ⟨ret_bool (hasB_found HG.out HE.out).symm, rfl⟩
    · go_wp2
      go_ret
      exact ⟨ret_bool (hasB_none (by rw [Hn.out]; omega) hinv.out).symm, rfl⟩
end Go.Proofs.Ytcfhnhhgnophhaa
namespace Go.Proofs.Ytcfhnhhgnophhaa
open Go.RowKit
theorem below_pos {ts : List Token} {id : Int} (h : 0 < (belowF ts id).length) : forestOk ts = true ∧ 0 ≤ idxT ts id ∧ belowF ts id = belowS ts id ∧ findOk ts id = true := by
  cases hf : findOk ts id
  · rw [belowF_no hf] at h; simp at h
  · have h1 := hf
    unfold findOk at h1
    rw [Bool.and_eq_true, decide_eq_true_eq] at h1
    exact ⟨h1.1, h1.2, belowF_yes hf, rfl⟩
theorem below_closed {ts : List Token} {id : Int} (hf : forestOk ts = true) {t : Token} (ht : t ∈ ts) : hasB (belowS ts id) t.Id = (t.Id == id || hasB (belowS ts id) t.Parent) := by
  obtain ⟨i, hi, rfl⟩ := List.mem_iff_getElem.1 ht
  have := wFold_closed (p := hasTok id) hf (List.getElem?_eq_getElem hi)
  rw [below_same hf] at this
  exact this
theorem depth_child {ts : List Token} (hf : forestOk ts = true) {t : Token} (ht : t ∈ ts) : depthF ts t.Id = match t.Parent == 0 with | true => 0 | false => depthF ts t.Parent + 1 := by
  obtain ⟨i, hi, rfl⟩ := List.mem_iff_getElem.1 ht
  have hg := List.getElem?_eq_getElem hi
  obtain ⟨h1, h2, h3, h4, h5⟩ := forest_tok hf hg
  rw [depthF_at hf (idxT_self hf hg) hg]
  cases h0 : (ts[i]).Parent == 0
  · have hne : (ts[i]).Parent ≠ 0 := by simpa using h0
    obtain ⟨j, s, e1, e2, e3⟩ := tok_at (h5 hne)
    rw [depthF_at hf e1 e2, depthW_step hf hne e1 e2 e3]
    simp only
    omega
  · have he : (ts[i]).Parent = 0 := by simpa using h0
    rw [he, depthW_zero]
    rfl
theorem rev_len {ts : List Token} {id : Int} (hf : forestOk ts = true) : (revT ts id).length + (revI ts id).length = ts.length := by
  rw [← (rev_fold hf).1, ← (rev_fold hf).2]
  have := wFold_len (hasTok id) ts ([], [])
  simpa [wFold] using this
theorem rev_valid {ts : List Token} {id : Int} (hf : forestOk ts = true) : forestOk (revT ts id) = true := by
  rw [(rev_ok hf).1]
  refine less_ok hf (fun t ht h2 => ?_)
  have h3 := below_closed (id := id) hf ht
  rw [h2] at h3
  have h4 : (t.Id == id || hasB (belowS ts id) t.Parent) = false := h3.symm
  rw [Bool.or_eq_false_iff] at h4
  exact h4.2
theorem orphan_id (id : Int) (t : Token) : (orphan id t).Id = t.Id := by
  unfold orphan
  cases t.Parent == id <;> rfl
theorem tokOk_noParent {t : Token} (h : tokOk t = true) : tokOk (noParent t) = true := by
  unfold tokOk at h ⊢
  simp only [Bool.and_eq_true] at h ⊢
  obtain ⟨h1, h2, h3, h4, h5, h6, h7⟩ := h
  refine ⟨h1, ?_, h3, h4, h5, h6, h7⟩
  have := withinB_iff.1 h1
  exact withinB_iff.2 (by show (0 : Int) ≤ 0 ∧ 0 ≤ t.Id - 1; omega)
theorem alone_len {ts : List Token} {id : Int} (hf : forestOk ts = true) (h : 0 ≤ idxT ts id) : (aloneT ts id).length + 1 = ts.length := by
  obtain ⟨i, t, e1, e2, e3⟩ := tok_at h
  have hi := (List.getElem?_eq_some_iff.1 e2).1
  rw [aloneT_yes (findOk_at hf e1), List.length_map, ← erase_less hf e2 e3, List.length_eraseIdx_of_lt hi]
  omega
theorem alone_valid {ts : List Token} {id : Int} (hf : forestOk ts = true) (h : 0 ≤ idxT ts id) : forestOk (aloneT ts id) = true := by
  obtain ⟨i, t0, e1, e2, e3⟩ := tok_at h
  have hlen := alone_len hf h
  rw [aloneT_yes (findOk_at hf e1)] at hlen ⊢
  unfold forestOk
  rw [Bool.and_eq_true, decide_eq_true_eq]
  refine ⟨by have := forestOk_len hf; omega, okAll_of (fun t ht => ?_) ?_⟩
  · obtain ⟨s, hs, rfl⟩ := List.mem_map.1 ht
    obtain ⟨h1, h2⟩ := lessT_mem hs
    have h3 := forest_in hf h1
    unfold inForest at h3 ⊢
    rw [Bool.and_eq_true] at h3 ⊢
    cases hp : s.Parent == id
    · have ho : orphan id s = s := by unfold orphan; rw [hp]
      rw [ho]
      refine ⟨h3.1, ?_⟩
      have h4 := h3.2
      unfold parentOk at h4 ⊢
      cases h0 : s.Parent == 0
      · rw [h0, Bool.false_or, decide_eq_true_eq] at h4
        obtain ⟨j, q, f1, f2, f3⟩ := tok_at h4
        have hq : q ∈ lessT ts [id] := mem_lessT (List.mem_of_getElem? f2) (by
          rw [f3]
          unfold hasB
          simp only [List.any_cons, List.any_nil, Bool.or_false]
          have : s.Parent ≠ id := by simpa using hp
          simp; exact fun e => this e.symm)
        have hm : orphan id q ∈ (lessT ts [id]).map (orphan id) := List.mem_map_of_mem hq
        obtain ⟨l, hl, he⟩ := List.mem_iff_getElem.1 hm
        rw [Bool.false_or, decide_eq_true_eq, ← f3, ← orphan_id id q, ← he]
        exact idxT_mem (List.getElem?_eq_getElem hl)
      · rfl
    · have ho : orphan id s = noParent s := by unfold orphan; rw [hp]
      rw [ho]
      exact ⟨tokOk_noParent h3.1, by unfold parentOk; rfl⟩
  · rw [List.pairwise_map]
    refine List.Pairwise.imp (fun {a b} hab => ?_) ((forest_pair hf).sublist List.filter_sublist)
    unfold idLt at hab ⊢
    rw [orphan_id, orphan_id]
    exact hab
end Go.Proofs.Ytcfhnhhgnophhaa

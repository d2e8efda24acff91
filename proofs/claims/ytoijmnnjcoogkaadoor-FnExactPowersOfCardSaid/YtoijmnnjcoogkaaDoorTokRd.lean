/- Rows of tokens: where an element lies; tokenIndex of the program, l08At of the reference. -/
import Derived.Test.YtoijmnnjcoogkaaDoorTok
import Derived.Test.YtoijmnnjcoogkaaDoorTokenS2
import Derived.Test.YtoijmnnjcoogkaaDoorForest2
set_option linter.unusedSimpArgs false
set_option linter.unusedVariables false
set_option maxRecDepth 20000
namespace Go.Proofs.YtoijmnnjcoogkaaDoor
open Go.RowKit
theorem tok_elem {w : World} {B n c k : Nat} {A : Option Addr} {ts : List Token} {t : Token} (h : SlRd TokenR w B (.slice A n c) ts) (ht : ts[k]? = some t) :
    ∃ b off An cn, A = some ⟨b, off, none⟩ ∧ b < B ∧ SlRd strR w B (.slice An t.Names.length cn) t.Names ∧ w.cell? ⟨b, off + k * 7, none⟩ = some (.int .i64 t.Id) ∧ w.cell? ⟨b, off + k * 7 + 1, none⟩ = some (.int .i64 t.Parent) ∧
      w.cell? ⟨b, off + k * 7 + 2, none⟩ = some (.slice An t.Names.length cn) ∧ w.cell? ⟨b, off + k * 7 + 3, none⟩ = some (.int .i64 t.Made) ∧ w.cell? ⟨b, off + k * 7 + 4, none⟩ = some (.int .i64 t.Ends) ∧
      w.cell? ⟨b, off + k * 7 + 5, none⟩ = some (.int .i64 t.Limit) ∧ w.cell? ⟨b, off + k * 7 + 6, none⟩ = some (.int .i64 t.Uses) := by
  obtain ⟨b, off, cs, rfl, hab, hrd, hcell⟩ := h.elem ht
  obtain ⟨v, rfl, q⟩ := rd_Token hrd
  obtain ⟨An, cn, rfl⟩ := q.form
  exact ⟨b, off, An, cn, rfl, hab, q, hcell 0 _ rfl, hcell 1 _ rfl, hcell 2 _ rfl, hcell 3 _ rfl, hcell 4 _ rfl, hcell 5 _ rfl, hcell 6 _ rfl⟩
/-- The Id of an element at an address that is known. -/
theorem tok_id {w : World} {B n c k b off : Nat} {ts : List Token} {t : Token} (h : SlRd TokenR w B (.slice (some ⟨b, off, none⟩) n c) ts) (ht : ts[k]? = some t) : w.cell? ⟨b, off + k * 7, none⟩ = some (.int .i64 t.Id) ∧ w.cell? ⟨b, off + k * 7 + 1, none⟩ = some (.int .i64 t.Parent) := by
  obtain ⟨b', off', _, _, e, _, _, h0, h1, _⟩ := tok_elem h ht
  simp only [Option.some.injEq, Addr.mk.injEq, and_true] at e
  obtain ⟨rfl, rfl⟩ := e
  exact ⟨h0, h1⟩
theorem names_small {ts : List Token} {k : Nat} {t : Token} {n : Nat} (h : szList TokenR ts ≤ n) (ht : ts[k]? = some t) : t.Names.length ≤ n := by
  have h1 := szList_one (R := TokenR) ht
  rw [sz_Token, sz_StringS] at h1
  omega
def hasTok (id : Int) (t : Token) : Bool := t.Id == id
def idxT (ts : List Token) (id : Int) : Int := idxB (hasTok id) ts
theorem idxT_le (ts : List Token) (id : Int) : -1 ≤ idxT ts id ∧ idxT ts id < ts.length ∨ idxT ts id = -1 := by
  unfold idxT idxB
  cases h : ts.findIdx? (hasTok id) with
  | none => exact .inr rfl
  | some i =>
    obtain ⟨h1, _⟩ := List.findIdx?_eq_some_iff_getElem.1 h
    exact .inl ⟨by simp only; omega, by simp only; omega⟩
abbrev TOKC (t : Token) (A : Option Addr) (c : Nat) : Array Value := #[.int .i64 t.Id, .int .i64 t.Parent, .slice A t.Names.length c, .int .i64 t.Made, .int .i64 t.Ends, .int .i64 t.Limit, .int .i64 t.Uses]
theorem impl_tokenIndex_1 (t : Token) (A : Option Addr) (c : Nat) (id : Int) (p : Addr) (w : World) (hc : w.cell? p = some (.int .i64 id)) : Calls Tryd.prog 42 #[.agg #[.int .i64 t.Id, .int .i64 t.Parent, .slice A t.Names.length c, .int .i64 t.Made, .int .i64 t.Ends, .int .i64 t.Limit, .int .i64 t.Uses], .pointer (some p)] w fun e w' => e = .returned (.bool (hasTok id t)) ∧ Below w.heap.size w w' := by
  have hlt := World.block_lt_of_cell? w p hc
  have hc' : (w.alloc (.cells #[.int .i64 t.Id, .int .i64 t.Parent, .slice A t.Names.length c, .int .i64 t.Made, .int .i64 t.Ends, .int .i64 t.Limit, .int .i64 t.Uses] 48)).cell? p = some (.int .i64 id) := by rw [World.cell?_alloc_lt _ _ _ hlt]; exact hc
  go_enter Tryd.func42, Tryd.ntmps42
  go_wp2
  go_ret
  exact ⟨rfl, by (repeat (first | (with_reducible exact Below.refl _ _) | (with_reducible assumption) | ((with_reducible refine Below.setCell ?_ ?_ _); rotate_left; focus (first | omega | (simp; done) | (simp; omega))) | ((with_reducible refine Below.alloc ?_ ?_ _); rotate_left; focus (first | omega | (simp; done) | (simp; omega))) | (with_reducible refine Below.drew ?_) | (with_reducible refine below_drewN ?_ _) | (refine Below.trans ?_ (Below.mono (by with_reducible assumption) (by (first | omega | (simp; done) | (simp; omega)))))))⟩
set_option maxHeartbeats 1600000 in
theorem slices_IndexFunc_Token (A : Option Addr) (c : Nat) (ts : List Token) (id : Int) (p : Addr) (w : World) (hr : SlRd TokenR w w.heap.size (.slice A ts.length c) ts) (hc : w.cell? p = some (.int .i64 id)) (hm : szList TokenR ts ≤ 1048576) :
    Calls Tryd.prog 41 #[.slice A ts.length c, .func (.func 42) #[] #[.pointer (some p)]] w fun e w' => e = .returned (.int .i64 (idxT ts id)) ∧ Below w.heap.size w w' := by
  have hlp := World.block_lt_of_cell? w p hc
  have hml : ts.length ≤ 1048576 := Nat.le_trans (Nat.le_add_right _ _) hm
  generalize hn : ts.length = n at *
  have Hn := Lib.hid hn
  clear hn
  go_enter Tryd.func41, Tryd.ntmps41
  go_wp2
  go_loopw [8] (fun i wr => ∃ k : Nat, k ≤ n ∧ i = .int .i64 k ∧ Below w.heap.size w wr ∧ Hid (∀ j (hj : j < ts.length), j < k → hasTok id ts[j] = false)) (fun i _ => n - (intOf i).toNat)
  case atStart => exact ⟨0, Nat.zero_le _, rfl, Below.refl _ _, fun j _ h => absurd h (by omega)⟩
  case round =>
    obtain ⟨k, hk, rfl, hb, hinv⟩ := hrel
    by_cases hlt : k < n
    · have hlx : k < ts.length := by rw [Hn.out]; exact hlt
      have HG := Lib.hid (List.getElem?_eq_getElem hlx)
      generalize ts[k]'hlx = t at HG
      obtain ⟨b, off, An, cn, rfl, hab, hnm, hq0, hq1, hq2, hq3, hq4, hq5, hq6⟩ := tok_elem (hr.below hb (Nat.le_refl _)) HG.out
      have hcp : wr.cell? p = some (.int .i64 id) := (hb.cell hlp).trans hc
      go_wp2_with fail
      refine (impl_tokenIndex_1 t An cn id p _ hcp).mono ?_
      rintro e w2 ⟨rfl, hb2⟩
      have hzr := hb.size
      go_wp2
      · have hT : hasTok id t = true := by assumption
        go_ret
        refine ⟨ret_int ?_, by (repeat (first | (with_reducible exact Below.refl _ _) | (with_reducible assumption) | ((with_reducible refine Below.setCell ?_ ?_ _); rotate_left; focus (first | omega | (simp; done) | (simp; omega))) | ((with_reducible refine Below.alloc ?_ ?_ _); rotate_left; focus (first | omega | (simp; done) | (simp; omega))) | (with_reducible refine Below.drew ?_) | (with_reducible refine below_drewN ?_ _) | (refine Below.trans ?_ (Below.mono (by with_reducible assumption) (by (first | omega | (simp; done) | (simp; omega)))))))⟩
        have e1 := HG.out
        obtain ⟨h1, h2⟩ := List.getElem?_eq_some_iff.1 e1
        exact (idxB_found h1 (fun j hj => hinv.out j (by omega) hj) (by rw [h2]; exact hT)).symm
      · have hT : hasTok id t = false := by assumption
        go_roundw
        case rel =>
          refine ⟨k + 1, by omega, by go_num, by (repeat (first | (with_reducible exact Below.refl _ _) | (with_reducible assumption) | ((with_reducible refine Below.setCell ?_ ?_ _); rotate_left; focus (first | omega | (simp; done) | (simp; omega))) | ((with_reducible refine Below.alloc ?_ ?_ _); rotate_left; focus (first | omega | (simp; done) | (simp; omega))) | (with_reducible refine Below.drew ?_) | (with_reducible refine below_drewN ?_ _) | (refine Below.trans ?_ (Below.mono (by with_reducible assumption) (by (first | omega | (simp; done) | (simp; omega))))))), fun j hj1 hj2 => ?_⟩
          rcases Nat.lt_or_ge j k with h | h
          · exact hinv.out j hj1 h
          · obtain rfl : j = k := by omega
            have e1 := HG.out
            rw [List.getElem?_eq_getElem hj1] at e1
            rw [Option.some.inj e1]
            exact hT
        case measure => simp [intOf]; omega
    · obtain rfl : k = n := by omega
      go_wp2
      go_ret
      exact ⟨ret_int (idxB_none (fun j hj => hinv.out j hj (by rw [← Hn.out]; exact hj))).symm, hb⟩
set_option maxHeartbeats 800000 in
theorem impl_tokenIndex (A : Option Addr) (c : Nat) (ts : List Token) (id : Int) (w : World) (hr : SlRd TokenR w w.heap.size (.slice A ts.length c) ts) (hm : szList TokenR ts ≤ 1048576) :
    Calls Tryd.prog 23 #[.agg #[.slice A ts.length c], .int .i64 id] w fun e w' => e = .returned (.int .i64 (idxT ts id)) ∧ Below w.heap.size w w' := by
  go_enter Tryd.func23, Tryd.ntmps23
  go_wp2_with fail
  refine (slices_IndexFunc_Token _ _ _ id _ _ (hr.keep (by (repeat (first | (with_reducible exact Below.refl _ _) | (with_reducible assumption) | ((with_reducible refine Below.setCell ?_ ?_ _); rotate_left; focus (first | omega | (simp; done) | (simp; omega))) | ((with_reducible refine Below.alloc ?_ ?_ _); rotate_left; focus (first | omega | (simp; done) | (simp; omega))) | (with_reducible refine Below.drew ?_) | (with_reducible refine below_drewN ?_ _) | (refine Below.trans ?_ (Below.mono (by with_reducible assumption) (by (first | omega | (simp; done) | (simp; omega)))))))) (by simp; omega)) (by simp) hm).mono ?_
  rintro e w2 ⟨rfl, hb2⟩
  go_wp2
  go_ret
  exact ⟨rfl, by (repeat (first | (with_reducible exact Below.refl _ _) | (with_reducible assumption) | ((with_reducible refine Below.setCell ?_ ?_ _); rotate_left; focus (first | omega | (simp; done) | (simp; omega))) | ((with_reducible refine Below.alloc ?_ ?_ _); rotate_left; focus (first | omega | (simp; done) | (simp; omega))) | (with_reducible refine Below.drew ?_) | (with_reducible refine below_drewN ?_ _) | (refine Below.trans ?_ (Below.mono (by with_reducible assumption) (by (first | omega | (simp; done) | (simp; omega)))))))⟩
set_option maxHeartbeats 1600000 in
theorem spec_l08At (A : Option Addr) (c : Nat) (ts : List Token) (id : Int) (w : World) (hr : SlRd TokenR w w.heap.size (.slice A ts.length c) ts) (hm : szList TokenR ts ≤ 1048576) :
    Calls Tryd.prog 36 #[.agg #[.slice A ts.length c], .int .i64 id] w fun e w' => e = .returned (.int .i64 (idxT ts id)) ∧ Below w.heap.size w w' := by
  have hml : ts.length ≤ 1048576 := Nat.le_trans (Nat.le_add_right _ _) hm
  generalize hn : ts.length = n at *
  have Hn := Lib.hid hn
  clear hn
  have BK : Blk (w.alloc (.cells #[.slice A n c] 33)) w.heap.size 33 #[.slice A n c] := Blk.new _ _ _
  have hc0 := BK.cell
  have hbw : Below w.heap.size w (w.alloc (.cells #[.slice A n c] 33)) := by (repeat (first | (with_reducible exact Below.refl _ _) | (with_reducible assumption) | ((with_reducible refine Below.setCell ?_ ?_ _); rotate_left; focus (first | omega | (simp; done) | (simp; omega))) | ((with_reducible refine Below.alloc ?_ ?_ _); rotate_left; focus (first | omega | (simp; done) | (simp; omega))) | (with_reducible refine Below.drew ?_) | (with_reducible refine below_drewN ?_ _) | (refine Below.trans ?_ (Below.mono (by with_reducible assumption) (by (first | omega | (simp; done) | (simp; omega)))))))
  go_enter Tryd.func36, Tryd.ntmps36
  go_wp2
  generalize w.alloc (.cells #[.slice A n c] 33) = W at *
  go_loop [5] (fun i => ∃ k : Nat, k ≤ n ∧ i = .int .i64 k ∧ Hid (∀ j (hj : j < ts.length), j < k → hasTok id ts[j] = false)) (fun i => n - (intOf i).toNat)
  case atStart => exact ⟨0, Nat.zero_le _, rfl, fun j _ h => absurd h (by omega)⟩
  case round =>
    obtain ⟨k, hk, rfl, hinv⟩ := hrel
    by_cases hlt : k < n
    · have hlx : k < ts.length := by rw [Hn.out]; exact hlt
      have HG := Lib.hid (List.getElem?_eq_getElem hlx)
      generalize ts[k]'hlx = t at HG
      obtain ⟨b, off, An, cn, rfl, hab, hnm, hq0, hq1, hq2, hq3, hq4, hq5, hq6⟩ := tok_elem (hr.below hbw (Nat.le_refl _)) HG.out
      cases hT : t.Id == id
      · have HT : Hid (hasTok id t = false) := Lib.hid hT
        go_wp2
        go_round
        case rel =>
          refine ⟨k + 1, by omega, by go_num, fun j hj1 hj2 => ?_⟩
          rcases Nat.lt_or_ge j k with h | h
          · exact hinv.out j hj1 h
          · obtain rfl : j = k := by omega
            have e1 := HG.out
            rw [List.getElem?_eq_getElem hj1] at e1
            rw [Option.some.inj e1]
            exact HT.out
        case measure => simp [intOf]; omega
      · have HT : Hid (hasTok id t = true) := Lib.hid hT
        go_wp2
        go_ret
        refine ⟨ret_int ?_, hbw⟩
        have e1 := HG.out
        obtain ⟨h1, h2⟩ := List.getElem?_eq_some_iff.1 e1
        exact (idxB_found h1 (fun j hj => hinv.out j (by omega) hj) (by rw [h2]; exact HT.out)).symm
    · obtain rfl : k = n := by omega
      go_wp2
      go_ret
      exact ⟨ret_int (idxB_none (fun j hj => hinv.out j hj (by rw [← Hn.out]; exact hj))).symm, hbw⟩
end Go.Proofs.YtoijmnnjcoogkaaDoor

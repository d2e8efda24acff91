/- Data that can be read apart from some blocks; drawn tokens and forests. Drawn names. -/
import Derived.Test.YtcfhnhhgnophhaaCur
import Derived.Test.YtcfhnhhgnophhaaTokRd
set_option linter.unusedSimpArgs false
set_option linter.unusedVariables false
set_option maxRecDepth 20000
namespace Go.Proofs.Ytcfhnhhgnophhaa
open Go.RowKit
def Low (n : Nat) (g : Nat) : Prop := g < n
/-- Cells that can be read, in a block that is none of X. -/
def RdIn (w : World) (X : Nat → Prop) (A : Option Addr) (xs : List Value) : Prop := Reads w w.heap.size A xs ∧ ∀ b off i, A = some ⟨b, off, i⟩ → 0 < xs.length → ¬ X b
theorem RdIn.out {w w' : World} {X T : Nat → Prop} {A : Option Addr} {xs : List Value} (h : RdIn w X A xs) (ho : Out T w w') (hT : ∀ g, T g → X g) : RdIn w' X A xs := by
  obtain ⟨h1, h2⟩ := h
  refine ⟨fun h0 => ?_, h2⟩
  obtain ⟨b, off, e, hb, hc⟩ := h1 h0
  have hnx := h2 b off none e h0
  refine ⟨b, off, e, Nat.lt_of_lt_of_le hb ho.size, fun j u hu => ?_⟩
  rw [← hc j u hu]
  unfold World.cell?
  rw [ho.block b hb (fun ht => hnx (hT b ht))]
theorem RdIn.keep {w w' : World} {X : Nat → Prop} {A : Option Addr} {xs : List Value} (h : RdIn w X A xs) (hb : Below w.heap.size w w') : RdIn w' X A xs := h.out (T := fun _ => False) (Out.of_below hb) (fun _ h => h.elim)
theorem RdIn.weak {w : World} {X X' : Nat → Prop} {A : Option Addr} {xs : List Value} (h : RdIn w X A xs) (hX : ∀ b, X' b → X b ∨ w.heap.size ≤ b) : RdIn w X' A xs := by
  obtain ⟨h1, h2⟩ := h
  refine ⟨h1, fun b off i e h0 hx => ?_⟩
  obtain ⟨b', off', e', hb, -⟩ := h1 h0
  rw [e] at e'
  injection e' with e'
  injection e' with e1 e2 e3
  rcases hX b hx with h | h
  · exact h2 b off i e h0 h
  · omega
theorem RdIn.nil {w : World} {X : Nat → Prop} {A : Option Addr} : RdIn w X A [] := ⟨Reads.nil, fun _ _ _ _ h => absurd h (by simp)⟩
theorem RdIn.own {w : World} {base size n c : Nat} {e : TypeId} {X : Nat → Prop} {A : Option Addr} {xs : List Value} (h : w.ownsRow base e size (.slice A n c) n xs) (hX : ∀ b, X b → b < base ∨ ∀ q, (Value.slice A n c).ownBlock = some q → q ≠ b) : RdIn w X A xs := by
  refine ⟨Reads.of_own h, fun b off i ea h0 hx => ?_⟩
  have hb : (Value.slice A n c).ownBlock = some b := by rw [ea]; rfl
  rcases hX b hx with h1 | h1
  · have := (h.lt b hb).1; omega
  · exact h1 b hb rfl
/-- A token as it lies in cells. -/
structure TokD where
  t : Token
  A : Option Addr
  c : Nat
def TokD.cells (d : TokD) : List Value := [.int .i64 d.t.Id, .int .i64 d.t.Parent, .slice d.A d.t.Names.length d.c, .int .i64 d.t.Made, .int .i64 d.t.Ends, .int .i64 d.t.Limit, .int .i64 d.t.Uses]
theorem TokD.len (d : TokD) : d.cells.length = 7 := rfl
theorem TokD.one (d : TokD) : ∀ u ∈ d.cells, u.oneCell' = true := by simp [TokD.cells, Value.oneCell']
/-- Its names can be read apart from X; there are K at most, and they are short. -/
structure TIn (w : World) (X : Nat → Prop) (K : Nat) (d : TokD) : Prop where
  rd : RdIn w X d.A (d.t.Names.map strV)
  cap : d.t.Names.length ≤ d.c
  max : d.c ≤ 9223372036854775807
  few : d.t.Names.length ≤ K
  short : ∀ s ∈ d.t.Names, s.size ≤ 5
theorem TIn.out {w w' : World} {X T : Nat → Prop} {K : Nat} {d : TokD} (h : TIn w X K d) (ho : Out T w w') (hT : ∀ g, T g → X g) : TIn w' X K d := ⟨h.rd.out ho hT, h.cap, h.max, h.few, h.short⟩
theorem TIn.keep {w w' : World} {X : Nat → Prop} {K : Nat} {d : TokD} (h : TIn w X K d) (hb : Below w.heap.size w w') : TIn w' X K d := ⟨h.rd.keep hb, h.cap, h.max, h.few, h.short⟩
theorem TIn.weak {w : World} {X X' : Nat → Prop} {K K' : Nat} {d : TokD} (h : TIn w X K d) (hX : ∀ b, X' b → X b ∨ w.heap.size ≤ b) (hK : K ≤ K') : TIn w X' K' d := ⟨h.rd.weak hX, h.cap, h.max, Nat.le_trans h.few hK, h.short⟩
theorem TIn.slrd {w : World} {X : Nat → Prop} {K : Nat} {d : TokD} (h : TIn w X K d) : SlRd strR w w.heap.size (.slice d.A d.t.Names.length d.c) d.t.Names :=
  of_rd_StringS h.rd.1 h.cap h.max (fun s hs => by have := h.short s hs; omega)
theorem TIn.tok {w : World} {X : Nat → Prop} {K : Nat} {d : TokD} (h : TIn w X K d) : TokenR.Rd w w.heap.size d.cells d.t := of_rd_Token h.slrd
theorem strSum_short : ∀ {xs : List ByteArray}, (∀ s ∈ xs, s.size ≤ 5) → strSum xs ≤ 5 * xs.length
  | [], _ => Nat.le_refl _
  | x :: xs, h => by
    have h1 := h x (List.mem_cons_self ..)
    have h2 := strSum_short (xs := xs) (fun s hs => h s (List.mem_cons_of_mem _ hs))
    simp only [strSum, List.map_cons, List.sum_cons, List.length_cons] at h2 ⊢
    omega
theorem TIn.sz {w : World} {X : Nat → Prop} {K : Nat} {d : TokD} (h : TIn w X K d) : TokenR.sz d.t ≤ 6 * K := by
  rw [sz_Token, sz_StringS]
  have h1 := strSum_short h.short
  have h2 := h.few
  omega
/-- The tokens of a forest that can be read. -/
theorem forest_rd {w : World} {X : Nat → Prop} {K n c : Nat} {A : Option Addr} {ds : List TokD} (hr : Reads w w.heap.size A (ds.flatMap TokD.cells)) (hn : ds.length = n) (hc : n ≤ c) (hc2 : c ≤ 9223372036854775807) (h : ∀ d ∈ ds, TIn w X K d) : SlRd TokenR w w.heap.size (.slice A n c) (ds.map (·.t)) := by
  subst hn
  refine ⟨A, c, ds.map TokD.cells, by rw [List.length_map], by rw [List.length_map]; exact hc, hc2, RowsRd.of_reads (m := 7) TokD.len (by decide) hr, by rw [List.length_map, List.length_map], fun i cs x h1 h2 => ?_⟩
  rw [List.getElem?_map] at h1 h2
  cases hd : ds[i]? with
  | none => rw [hd] at h1; cases h1
  | some d =>
    rw [hd] at h1 h2
    simp only [Option.map_some, Option.some.injEq] at h1 h2
    subst h1 h2
    exact (h d (List.mem_of_getElem? hd)).tok
theorem sum_bd {K : Nat} : ∀ {ts : List Token}, (∀ t ∈ ts, TokenR.sz t ≤ K) → (ts.map TokenR.sz).sum ≤ K * ts.length
  | [], _ => Nat.le_refl _
  | t :: ts, h => by
    have h1 := h t (List.mem_cons_self ..)
    have h2 := sum_bd (ts := ts) (fun s hs => h s (List.mem_cons_of_mem _ hs))
    rw [List.map_cons, List.sum_cons, List.length_cons, Nat.mul_succ]
    omega
theorem forest_small {w : World} {X : Nat → Prop} {ds : List TokD} (h : ∀ d ∈ ds, TIn w X 8 d) (hn : ds.length ≤ 121) : szList TokenR (ds.map (·.t)) ≤ 1048576 := by
  have h1 := sum_bd (K := 48) (ts := ds.map (·.t)) (fun t ht => by
    obtain ⟨d, hd, rfl⟩ := List.mem_map.1 ht
    have := (h d hd).sz
    omega)
  unfold szList
  rw [List.length_map] at h1 ⊢
  omega
end Go.Proofs.Ytcfhnhhgnophhaa
namespace Go.Proofs.Ytcfhnhhgnophhaa
open Go.RowKit
variable {B : Nat}
set_option maxHeartbeats 1600000 in
/-- One of a list that is not empty. -/
theorem spec_pickText (g : Nat) (w : World) (cs : List ByteArray) (hc : Cur B w g) (h0 : 0 < cs.length) (hl : cs.length ≤ 1000) :
    Calls Try.prog 78 #[.pointer (some ⟨g, 0, none⟩), .slice (some ⟨w.heap.size, 0, none⟩) cs.length cs.length] (w.alloc (.cells (cs.map strV).toArray 9)) fun e w' => ∃ x : ByteArray, e = .returned (.string x) ∧ x ∈ cs ∧ Cur B w' g ∧ Out (fun q => q = g) w w' ∧ w.heap.size + 1 ≤ w'.heap.size := by
  have hb : Below w.heap.size w (w.alloc (.cells (cs.map strV).toArray 9)) := by (repeat (first | (with_reducible exact Below.refl _ _) | (with_reducible assumption) | ((with_reducible refine Below.setCell ?_ ?_ _); rotate_left; focus (first | omega | (simp; done) | (simp; omega))) | ((with_reducible refine Below.alloc ?_ ?_ _); rotate_left; focus (first | omega | (simp; done) | (simp; omega))) | (with_reducible refine Below.drew ?_) | (with_reducible refine below_drewN ?_ _) | (refine Below.trans ?_ (Below.mono (by with_reducible assumption) (by (first | omega | (simp; done) | (simp; omega)))))))
  have hgl := hc.lt
  have hB : Blk (w.alloc (.cells (cs.map strV).toArray 9)) w.heap.size 9 (cs.map strV).toArray := Blk.new' rfl
  have hcb := hc.below hb
  have hsz : w.heap.size + 1 = (w.alloc (.cells (cs.map strV).toArray 9)).heap.size := by simp
  obtain ⟨b, hbe⟩ : ∃ b, b = w.heap.size := ⟨_, rfl⟩
  have hgb : g < b := by omega
  rw [← hbe] at hB hsz ⊢
  clear hbe
  have hOb := Out.of_below (S := fun q => q = g) hb
  generalize (w.alloc (.cells (cs.map strV).toArray 9)) = wa at *
  go_enter Try.func78, Try.ntmps78
  go_wp2_with fail
  refine (spec_l01Below g cs.length _ hcb (by omega)).mono ?_
  rintro e w1 ⟨x, rfl, hx0, hx1, hx2, hd1⟩
  have hx := hx1 (by omega)
  obtain ⟨k, rfl⟩ : ∃ k : Nat, x = k := ⟨x.toNat, by omega⟩
  have hk : k < cs.length := by omega
  have hB1 := hB.out hd1.2 (by omega)
  have hcx := hB1.cell k
  rw [show ((cs.map strV).toArray)[k]? = some (strV (cs[k]'hk)) by simp [hk]] at hcx
  have hmem := List.getElem_mem hk
  generalize cs[k]'hk = v at *
  simp only [strV] at hcx
  have hz1 := hd1.size
  go_wp2
  go_ret
  exact ⟨v, rfl, hmem, hd1.1, hOb.trans hd1.2, by omega⟩
set_option maxHeartbeats 3200000 in
theorem spec_l08DrawNames (g : Nat) (w : World) (hc : Cur B w g) :
    Calls Try.prog 67 #[.pointer (some ⟨g, 0, none⟩)] w fun e w' => ∃ (A : Option Addr) (c : Nat) (xs : List ByteArray), e = .returned (.slice A xs.length c) ∧ xs.length ≤ 6 ∧ (∀ s ∈ xs, s.size ≤ 5) ∧ w'.ownsRow w.heap.size 9 1 (.slice A xs.length c) xs.length (xs.map strV) ∧ Cur B w' g ∧ Out (fun q => q = g) w w' := by
  obtain ⟨i0, hi0, hI0, hI1, hI2⟩ := info_parts info_string
  have hgl := hc.lt
  have hBg := hc.le
  go_enter Try.func67, Try.ntmps67
  have hlit : World.ownsRow _ _ 9 1 _ _ _ := World.ownsRow_lit (size := 1) w #[] 0 (Nat.le_refl _) (by simp [maxLen]) rfl
  have hlit2 : World.ownsRow ((w.alloc (.cells #[] 9)).alloc (.cells #[.string ⟨#[97]⟩, .string ⟨#[100, 101, 118]⟩, .string ⟨#[111, 112, 115]⟩, .string ⟨#[114, 111, 111, 116, 49]⟩, .string ⟨#[120, 57]⟩] 9)) w.heap.size 9 1 (.slice (some ⟨w.heap.size, 0, none⟩) 0 0) 0 [] := by simpa using hlit.alloc (.cells #[.string ⟨#[97]⟩, .string ⟨#[100, 101, 118]⟩, .string ⟨#[111, 112, 115]⟩, .string ⟨#[114, 111, 111, 116, 49]⟩, .string ⟨#[120, 57]⟩] 9)
  have hbA : Below w.heap.size w ((w.alloc (.cells #[] 9)).alloc (.cells #[.string ⟨#[97]⟩, .string ⟨#[100, 101, 118]⟩, .string ⟨#[111, 112, 115]⟩, .string ⟨#[114, 111, 111, 116, 49]⟩, .string ⟨#[120, 57]⟩] 9)) := by (repeat (first | (with_reducible exact Below.refl _ _) | (with_reducible assumption) | ((with_reducible refine Below.setCell ?_ ?_ _); rotate_left; focus (first | omega | (simp; done) | (simp; omega))) | ((with_reducible refine Below.alloc ?_ ?_ _); rotate_left; focus (first | omega | (simp; done) | (simp; omega))) | (with_reducible refine Below.drew ?_) | (with_reducible refine below_drewN ?_ _) | (refine Below.trans ?_ (Below.mono (by with_reducible assumption) (by (first | omega | (simp; done) | (simp; omega)))))))
  have BL : Blk ((w.alloc (.cells #[] 9)).alloc (.cells #[.string ⟨#[97]⟩, .string ⟨#[100, 101, 118]⟩, .string ⟨#[111, 112, 115]⟩, .string ⟨#[114, 111, 111, 116, 49]⟩, .string ⟨#[120, 57]⟩] 9)) (w.heap.size + 1) 9 #[.string ⟨#[97]⟩, .string ⟨#[100, 101, 118]⟩, .string ⟨#[111, 112, 115]⟩, .string ⟨#[114, 111, 111, 116, 49]⟩, .string ⟨#[120, 57]⟩] := Blk.new' (by simp)
  have hcA := hc.below hbA
  have HsA : Hid (w.heap.size + 2 = ((w.alloc (.cells #[] 9)).alloc (.cells #[.string ⟨#[97]⟩, .string ⟨#[100, 101, 118]⟩, .string ⟨#[111, 112, 115]⟩, .string ⟨#[114, 111, 111, 116, 49]⟩, .string ⟨#[120, 57]⟩] 9)).heap.size) := Lib.hid (by simp)
  clear hlit
  go_wp2_with fail
  generalize ((w.alloc (.cells #[] 9)).alloc (.cells #[.string ⟨#[97]⟩, .string ⟨#[100, 101, 118]⟩, .string ⟨#[111, 112, 115]⟩, .string ⟨#[114, 111, 111, 116, 49]⟩, .string ⟨#[120, 57]⟩] 9)) = wa at *
  obtain ⟨bl, hbl⟩ : ∃ bl, bl = w.heap.size + 1 := ⟨_, rfl⟩
  rw [← hbl] at BL ⊢
  have hgl2 : w.heap.size + 1 ≤ bl := by omega
  have hOA := Out.of_below (S := fun q => q = g) hbA
  clear hbl HsA hbA
  go_loopw [3, 5] (fun sl i wr => ∃ (k : Nat) (A1 : Option Addr) (n c1 : Nat) (xs : List ByteArray), k ≤ 5 ∧ n ≤ k ∧ sl = .slice A1 n c1 ∧ i = .int .i64 k ∧ Hid (xs.length = n) ∧ Hid (∀ s ∈ xs, s.size ≤ 5) ∧ Blk wr bl 9 #[.string ⟨#[97]⟩, .string ⟨#[100, 101, 118]⟩, .string ⟨#[111, 112, 115]⟩, .string ⟨#[114, 111, 111, 116, 49]⟩, .string ⟨#[120, 57]⟩] ∧ (∀ q, (Value.slice A1 n c1).ownBlock = some q → q ≠ bl) ∧ wr.ownsRow w.heap.size 9 1 (.slice A1 n c1) n (xs.map strV) ∧ Cur B wr g ∧ Out (fun q => q = g) w wr) (fun _ i _ => 5 - (intOf i).toNat)
  case atStart => exact ⟨0, some ⟨w.heap.size, 0, none⟩, 0, 0, [], by omega, by omega, rfl, rfl, rfl, Lib.hid (by simp), BL, fun q hq => by simp only [Value.ownBlock, Option.some.injEq] at hq; omega, hlit2, hcA, hOA⟩
  case round =>
    obtain ⟨k, A1, n, c1, xs, hk, hnk, rfl, rfl, hxl, hxs, BL, hnb, hown, hcr, hOr⟩ := hrel
    clear hlit2 hcA hOA
    have hlb := BL.lt
    by_cases hlt : k < 5
    · go_wp2_with fail
      refine (spec_l01Below g 5 _ hcr (by omega)).mono ?_
      rintro e w1 ⟨x, rfl, hx0, hx1, -, hd1⟩
      have hs1 := hd1.size
      have BL1 := BL.out hd1.2 (by omega)
      have ho1 := own_drawn hown hd1 (by omega)
      by_cases hx3 : x < 3
      · obtain ⟨s, hs1', hs5⟩ : ∃ s : ByteArray, (#[.string ⟨#[97]⟩, .string ⟨#[100, 101, 118]⟩, .string ⟨#[111, 112, 115]⟩, .string ⟨#[114, 111, 111, 116, 49]⟩, .string ⟨#[120, 57]⟩] : Array Value)[k]? = some (.string s) ∧ s.size ≤ 5 := by
          rcases (by omega : k = 0 ∨ k = 1 ∨ k = 2 ∨ k = 3 ∨ k = 4) with rfl | rfl | rfl | rfl | rfl
          all_goals exact ⟨_, rfl, by decide⟩
        have hcl := (BL1.cell k).trans hs1'
        clear hs1'
        have hx3d : decide (x < 3) = true := by simpa using hx3
        go_wp2_with (first | (at_builtin; go_loud (refine wpList_append_own_at _ rfl _ _ 33 rfl (w.heap.size) 9 i0 (.string ⟨#[]⟩) 1 16 Try.underlying33 hi0 hI0 hI1 hI2 rfl (by decide) _ _ _ rfl (ho1.alloc _) ⟨(w1).heap.size, 0, none⟩ 1 1 [.string s] rfl rfl ?c1 ?c2 ?c3 ?c4 ?c5 ?_; (case c1 => exact cell_one_new _ _ _); (case c2 => simp [Value.oneCell']); (case c3 => (simp only [maxLen]; omega)); (case c4 => omega); (case c5 => (simp; omega)); intro v' wA hown1 hgrow hnil hat; obtain ⟨gg, cap, rfl, hg1, hg2⟩ := hown1.form (by omega))))
        go_roundw
        case rel =>
          have hlow : ∀ q, (Value.slice A1 n c1).ownBlock = some q → w.heap.size ≤ q := fun q e => (hown.lt q e).1
          have hup : ∀ q, (Value.slice A1 n c1).ownBlock = some q → q < wr.heap.size := fun q e => (hown.lt q e).2
          refine ⟨k + 1, some ⟨gg, 0, none⟩, n + 1, cap, xs ++ [s], by omega, by omega, rfl, by go_num, Lib.hid (by rw [List.length_append, hxl.out]; rfl), Lib.hid ?_, ?_, ?_, ?_, ?_, ?_⟩
          · intro s' hs'
            rcases List.mem_append.1 hs' with h | h
            · exact hxs.out s' h
            · rw [List.mem_singleton.1 h]; exact hs5
          · exact Blk.grown (BL1.alloc _) hgrow (fun e => hnb _ e.symm rfl)
          · intro q hq
            rcases hat with h6 | h6
            · exact hnb q (h6.symm.trans hq)
            · have h7 := h6.symm.trans hq
              simp at h7
              omega
          · rw [List.map_append]; exact hown1
          · exact (hd1.1.below ((Below.refl _ w1).alloc (Nat.le_refl _) _)).out (out_gr hgrow) (fun q e => by have := hlow q e; omega)
          · exact Out.growR ((hOr.trans hd1.2).alloc _) hgrow hlow
        case measure => simp [intOf]; omega
      · go_wp2_with fail
        go_roundw
        case rel => exact ⟨k + 1, A1, n, c1, xs, by omega, by omega, rfl, by go_num, hxl, hxs, BL1, hnb, ho1, hd1.1, hOr.trans hd1.2⟩
        case measure => simp [intOf]; omega
    · obtain rfl : k = 5 := by omega
      go_wp2_with fail
      refine (spec_l01Once g 40 _ hcr (by omega)).mono ?_
      rintro e w2 ⟨b, rfl, hd2⟩
      have hs2 := hd2.size
      have ho2 := own_drawn hown hd2 (by omega)
      cases b
      · go_wp2
        go_ret
        exact ⟨A1, c1, xs, by rw [hxl.out]; rfl, by rw [hxl.out]; omega, hxs.out, by rw [hxl.out]; exact ho2, hd2.1, hOr.trans hd2.2⟩
      · go_wp2_with fail
        refine (spec_pickText g w2 [⟨#[97]⟩, ⟨#[]⟩, ⟨#[90]⟩, ⟨#[122, 122]⟩] hd2.1 (by simp) (by simp)).mono ?_
        rintro e w3 ⟨s, rfl, hs, hc3, hO3, hs3⟩
        have hs5 : s.size ≤ 5 := by
          simp only [List.mem_cons, List.not_mem_nil, or_false] at hs
          rcases hs with rfl | rfl | rfl | rfl <;> decide
        have ho3 := own_out ho2 hO3 (fun q hq e => by have := (hown.lt q hq).1; omega)
        clear hs
        go_wp2_with (first | (at_builtin; go_loud (refine wpList_append_own_at _ rfl _ _ 33 rfl (w.heap.size) 9 i0 (.string ⟨#[]⟩) 1 16 Try.underlying33 hi0 hI0 hI1 hI2 rfl (by decide) _ _ _ rfl (ho3.alloc _) ⟨(w3).heap.size, 0, none⟩ 1 1 [.string s] rfl rfl ?c1 ?c2 ?c3 ?c4 ?c5 ?_; (case c1 => exact cell_one_new _ _ _); (case c2 => simp [Value.oneCell']); (case c3 => (simp only [maxLen]; omega)); (case c4 => omega); (case c5 => (simp; omega)); intro v' wA hown1 hgrow hnil hat; obtain ⟨gg, cap, rfl, hg1, hg2⟩ := hown1.form (by omega))))
        go_ret
        have hlow : ∀ q, (Value.slice A1 n c1).ownBlock = some q → w.heap.size ≤ q := fun q e => (hown.lt q e).1
        have hl1 : (xs ++ [s]).length = n + 1 := by rw [List.length_append, hxl.out]; rfl
        refine ⟨some ⟨gg, 0, none⟩, cap, xs ++ [s], by rw [hl1]; rfl, by rw [hl1]; omega, ?_, ?_, ?_, ?_⟩
        · intro s' hs'
          rcases List.mem_append.1 hs' with h | h
          · exact hxs.out s' h
          · rw [List.mem_singleton.1 h]; exact hs5
        · rw [hl1, List.map_append]; exact hown1
        · exact (hc3.below ((Below.refl _ w3).alloc (Nat.le_refl _) _)).out (out_gr hgrow) (fun q e => by have := hlow q e; omega)
        · exact Out.growR (((hOr.trans hd2.2).trans hO3).alloc _) hgrow hlow
end Go.Proofs.Ytcfhnhhgnophhaa

/- slices.Insert of one timer into a row that is owned. -/
import Derived.Test.YthahnaigdoiddaaSearchT
import Derived.Test.YthahnaigdoiddaaPairC
import Derived.Laws.Externs
import Derived.Laws.CopyRow
import Derived.Lib.Overlaps
import Derived.Lib.AppendZerosOnto
set_option linter.unusedSimpArgs false
set_option linter.unusedVariables false
set_option maxRecDepth 20000
namespace Go.Proofs.Ythahnaigdoiddaa
open Go.RowKit
section
variable {P : Program}
theorem wpList_copy_run {w : World} {ops : Array Oper} {rest : List Oper} {o : Oper} {a : Act} {Q : Exit → Act → World → Prop} (hgd : o.guard = none) (d s : Operand) (t t' : TypeId)
    (ho : o.op = .call { callee := .builtin .copy, args := #[d, s], argTypes := #[t, t'] }) (v u : Value) (hd : a.eval d = v) (hs : a.eval s = u) {v' : Value} {w' : World}
    (hr : (Builtin.copy_ #[t, t'] o.type #[v, u]).run P w = .ok v' w') (h : wpList P ops Q rest (a.put o.dst v') w') : wpList P ops Q (o :: rest) a w := by
  refine wpList_plain hgd fun K hK => ?_
  unfold Oper.wp execOp
  simp only [ho, resolve, invoke, builtin, Sem.run_bind, Sem.run_pure, Result.andThen_ok, List.map_toArray, List.map_cons, List.map_nil, hd, hs, hr]
  exact hK _ _ h
theorem step_copy_run {ops : Array Oper} {o : Oper} {a : Act} {w : World} {K : Act → World → Prop} {Q : Exit → Act → World → Prop} {E : Prop}
    (hg : o.guard = none) (d x : Operand) (dT sT : TypeId) (hop : o.op = Op.call { callee := Callee.builtin Builtin.copy, args := #[d, x], argTypes := #[dT, sT] })
    (v u : Value) (hd : a.eval d = v) (hx : a.eval x = u) {v' : Value} {w' : World} (hr : (Builtin.copy_ #[dT, sT] o.type #[v, u]).run P w = .ok v' w') (h : K (a.put o.dst v') w') :
    if Region.wanted o (yielded ops a.tmps) = true then Oper.wp P o a w K Q else E := by
  have hw : Region.wanted o (yielded ops a.tmps) = true := by simp [Region.wanted, hg]
  rw [if_pos hw]
  unfold Oper.wp execOp
  simp only [hop, resolve, invoke, builtin, Sem.run_bind, Sem.run_pure, Result.andThen_ok, List.map_toArray, List.map_cons, List.map_nil, hd, hx, hr]
  exact h
theorem run_copy_sized (w : World) (dT sT ty elem : TypeId) (g o dLen dCap k size : Nat) (a : Addr) (sLen sCap : Nat) (cur : Array Value) (t : TypeId) (cs : List Value)
    (hu : P.underlying dT = some (.slice elem)) (hs : (P.info? elem).map (·.size) = some size)
    (hg : w.heap[g]? = some (.cells cur t (0, 0))) (hk : k = Nat.min sLen dLen) (hn : cs.length = k * size)
    (hsrc : ∀ j v, cs[j]? = some v → w.cell? (a.add j) = some v) (hfit : o + cs.length ≤ cur.size) (h1 : ∀ v ∈ cs, v.oneCell' = true) :
    (Builtin.copy_ #[dT, sT] ty #[.slice (some ⟨g, o, none⟩) dLen dCap, .slice (some a) sLen sCap]).run P w =
      .ok (goInt k) (w.setRow g (cur.toList.take o ++ cs ++ cur.toList.drop (o + cs.length)).toArray) := by
  have hl := run_loadCells_list (P := P) w a cs hsrc
  have hst := run_storeCells_at P g o t cs 0 cur w hg (by simpa using hfit) h1
  rw [hn] at hl
  cases hq : P.info? elem with
  | none => simp [hq] at hs
  | some i =>
    have hi : i.size = size := by simpa [hq] using hs
    simp [Builtin.copy_, run_underlying hu, Builtin.lenOf, Builtin.firstCells, sizeOf, typeInfo, hq, hi, ← hk, hl, hst]
end
theorem setRow_below {B g : Nat} {w : World} (hB : B ≤ g) (cs : Array Value) : Below B w (w.setRow g cs) := ⟨rfl, rfl, rfl, by simp [World.setRow], fun k hk => setRow_other w g k cs (by omega)⟩
/-- What a row holds with two copies laid over it. -/
theorem ins_row {α : Type} (L Xa Xb T : List α) (i n : Nat) (h : L.take (n * 2) = Xa ++ Xb) (ha : Xa.length = i * 2) (hb : Xb.length = (n - i) * 2) (ht : T.length = 2) (hi : i ≤ n) (hl : (n + 1) * 2 ≤ L.length) :
    let L1 := L.take ((i + 1) * 2) ++ Xb ++ L.drop ((i + 1) * 2 + Xb.length)
    let L2 := L1.take (i * 2) ++ T ++ L1.drop (i * 2 + T.length)
    L1.length = L.length ∧ L2.length = L.length ∧ L2.take ((n + 1) * 2) = Xa ++ T ++ Xb := by
  intro L1 L2
  have e0 : (i + 1) * 2 + (n - i) * 2 = (n + 1) * 2 := by rw [← Nat.add_mul]; congr 1; omega
  have e1 : L1.length = L.length := by
    show (L.take ((i + 1) * 2) ++ Xb ++ L.drop ((i + 1) * 2 + Xb.length)).length = _
    rw [List.length_append, List.length_append, List.length_take, List.length_drop, hb]
    have : (i + 1) * 2 ≤ (n + 1) * 2 := Nat.mul_le_mul_right _ (by omega)
    omega
  have hin : i * 2 ≤ n * 2 := Nat.mul_le_mul_right _ hi
  have e2 : L.take (i * 2) = Xa := by
    have h2 : (L.take (n * 2)).take (i * 2) = L.take (i * 2) := by rw [List.take_take, Nat.min_eq_left hin]
    rw [← h2, h, List.take_append_of_le_length (by omega), List.take_of_length_le (by omega)]
  have e3 : L1.take (i * 2) = Xa := by
    show (L.take ((i + 1) * 2) ++ Xb ++ L.drop ((i + 1) * 2 + Xb.length)).take (i * 2) = Xa
    rw [List.append_assoc, List.take_append_of_le_length (by rw [List.length_take]; omega), List.take_take, Nat.min_eq_left (by omega), e2]
  have e4 : L1.drop (i * 2 + T.length) = Xb ++ L.drop ((n + 1) * 2) := by
    show (L.take ((i + 1) * 2) ++ Xb ++ L.drop ((i + 1) * 2 + Xb.length)).drop (i * 2 + T.length) = _
    have h3 : (L.take ((i + 1) * 2)).length = i * 2 + T.length := by rw [List.length_take, ht]; omega
    rw [List.append_assoc, ← h3, List.drop_left, hb, e0]
  have e5 : L2 = Xa ++ T ++ Xb ++ L.drop ((n + 1) * 2) := by
    show L1.take (i * 2) ++ T ++ L1.drop (i * 2 + T.length) = _
    rw [e3, e4]; simp
  refine ⟨e1, ?_, ?_⟩
  · rw [e5, List.length_append, List.length_append, List.length_append, ha, hb, ht, List.length_drop]; omega
  · rw [e5, List.take_append_of_le_length (by rw [List.length_append, List.length_append, ha, hb, ht]; omega), List.take_of_length_le (by rw [List.length_append, List.length_append, ha, hb, ht]; omega)]
theorem ins_row2 {α : Type} (L Xa Xb T : List α) (i n : Nat) (h : L.take (i * 2) = Xa) (ha : Xa.length = i * 2) (hb : Xb.length = (n - i) * 2) (ht : T.length = 2) (hi : i ≤ n) (hl : (n + 1) * 2 ≤ L.length) :
    let L1 := L.take (i * 2) ++ T ++ L.drop (i * 2 + T.length)
    let L2 := L1.take ((i + 1) * 2) ++ Xb ++ L1.drop ((i + 1) * 2 + Xb.length)
    L1.length = L.length ∧ L2.length = L.length ∧ L2.take ((n + 1) * 2) = Xa ++ T ++ Xb := by
  intro L1 L2
  have e0 : (i + 1) * 2 + (n - i) * 2 = (n + 1) * 2 := by rw [← Nat.add_mul]; congr 1; omega
  have hin : i * 2 ≤ n * 2 := Nat.mul_le_mul_right _ hi
  have e1 : L1.length = L.length := by
    show (L.take (i * 2) ++ T ++ L.drop (i * 2 + T.length)).length = _
    rw [List.length_append, List.length_append, List.length_take, List.length_drop, ht]
    omega
  have e3 : L1.take ((i + 1) * 2) = Xa ++ T := by
    show (L.take (i * 2) ++ T ++ L.drop (i * 2 + T.length)).take ((i + 1) * 2) = _
    rw [h, List.take_append_of_le_length (by rw [List.length_append, ha, ht]; omega), List.take_of_length_le (by rw [List.length_append, ha, ht]; omega)]
  have e5 : L2 = Xa ++ T ++ Xb ++ L1.drop ((i + 1) * 2 + Xb.length) := by
    show L1.take ((i + 1) * 2) ++ Xb ++ L1.drop ((i + 1) * 2 + Xb.length) = _
    rw [e3]
  refine ⟨e1, ?_, ?_⟩
  · rw [e5, List.length_append, List.length_append, List.length_append, ha, hb, ht, List.length_drop, e1]; omega
  · rw [e5, List.take_append_of_le_length (by rw [List.length_append, List.length_append, ha, hb, ht]; omega), List.take_of_length_le (by rw [List.length_append, List.length_append, ha, hb, ht]; omega)]
set_option maxHeartbeats 6400000 in
set_option maxRecDepth 200000 in
theorem slices_Insert_Timer (base : Nat) (A : Option Addr) (n cap : Nat) (xs : List Timer) (i : Nat) (t : Timer) (vb : Nat) (w : World) (ho : w.ownsRow base 52 2 (.slice A n cap) n (xs.flatMap Timer.cells)) (hn : xs.length = n) (hi : i ≤ n) (hm : n ≤ 1000)
    (hv : Blk w vb 52 #[.int .i64 t.At, .int .i64 t.Id]) (hvb : (Value.slice A n cap).ownBlock ≠ some vb) (hbase : base ≤ w.heap.size) :
    Calls Try.prog 39 #[.slice A n cap, .int .i64 i, .slice (some ⟨vb, 0, none⟩) 1 1] w fun e w' => ∃ A' c', e = .returned (.slice A' (n + 1) c') ∧ w'.ownsRow base 52 2 (.slice A' (n + 1) c') (n + 1) ((xs.take i ++ t :: xs.drop i).flatMap Timer.cells) ∧ w.grownBy w' (Value.slice A n cap).ownBlock := by
  obtain ⟨i0, hi0, hI0, hI1, hI2⟩ := info_parts info_Timer
  have hcap := own_cap ho
  have hvc : ∀ j v, [Value.int .i64 t.At, .int .i64 t.Id][j]? = some v → w.cell? ((⟨vb, 0, none⟩ : Addr).add j) = some v := fun j v h => by
    rw [addr_add_none, Nat.zero_add, hv.cell]; simpa using h
  have ht26 : Try.prog.underlying 24 = some (.slice (Try.prog.elem 24)) := by kernel_rfl
  have hz26 : ∀ W, (sizeOf (Try.prog.elem 24)).run Try.prog W = .ok 2 W := fun W => by rw [show Try.prog.elem 24 = 52 by kernel_rfl]; simp [go_sem]
  have hr0 : ∃ X : Value, (¬ cap = i → X = .slice (A.map (·.add (i * 2))) (n - i) (cap - i)) ∧ ∀ W, (Instr.slice 24 (.slice A n cap) (some (.int .i64 (i : Int))) none none).run Try.prog W = .ok X W := by
    refine ⟨.slice (if cap = i then A else A.map (·.add (i * 2))) (n - i) (cap - i), fun h => by rw [if_neg h], fun W => ?_⟩
    rw [run_slice_l W 24 A n cap ht26 .i64 i (by omega) (by omega), hz26]
    simp [Result.andThen, sliced]
  obtain ⟨X0, hX0, hr0⟩ := hr0
  clear ht26 hz26
  have HX0 := Lib.hid hX0
  clear hX0
  by_cases hin : i = n
  · subst hin
    have HL : Hid (xs.take i ++ t :: xs.drop i = xs ++ [t]) := Lib.hid (by rw [List.take_of_length_le (by omega), List.drop_of_length_le (by omega)])
    have HVc := Lib.hid hvc
    clear hvc hn
    go_enter Try.func39, Try.ntmps39
    go_wp2_with (first | (at_builtin; go_loud (refine wpList_append_own_at _ rfl _ _ 24 rfl base 52 i0 _ 2 16 Try.underlying24 hi0 hI0 hI1 hI2 rfl (by decide) _ _ _ rfl ho ⟨vb, 0, none⟩ 1 1 [.int .i64 t.At, .int .i64 t.Id] rfl rfl ?c1 ?c2 ?c3 ?c4 ?c5 ?_; (case c1 => exact HVc.out); (case c2 => simp [Value.oneCell']); (case c3 => (simp only [maxLen]; omega)); (case c4 => omega); (case c5 => omega); intro v' wA hown1 hgrow hnil hat; obtain ⟨gg, cp, rfl, hg1, hg2⟩ := hown1.form (by omega))))
    go_ret
    refine ⟨some ⟨gg, 0, none⟩, cp, rfl, ?_, hgrow⟩
    rw [HL.out, List.flatMap_append]
    simpa [Timer.cells] using hown1
  have hlt : i < n := by omega
  obtain ⟨g, rfl, hgl⟩ : ∃ g, A = some ⟨g, 0, none⟩ ∧ g < w.heap.size := by
    obtain ⟨gg, cp, e, _, h2⟩ := ho.form (by omega)
    simp only [Value.slice.injEq] at e
    exact ⟨gg, e.1, h2⟩
  have hgb : base ≤ g := (ho.lt g rfl).1
  have hne : vb ≠ g := fun e => hvb (by rw [e]; rfl)
  have hmax := own_max' ho
  have hXa : ((xs.take i).flatMap Timer.cells).length = i * 2 := by rw [flat_length _ _ Timer.len, List.length_take]; congr 1; omega
  have hXb : ((xs.drop i).flatMap Timer.cells).length = (n - i) * 2 := by rw [flat_length _ _ Timer.len, List.length_drop, hn]
  have hXX : xs.flatMap Timer.cells = (xs.take i).flatMap Timer.cells ++ (xs.drop i).flatMap Timer.cells := by rw [← List.flatMap_append, List.take_append_drop]
  have hRes : (xs.take i).flatMap Timer.cells ++ [Value.int .i64 t.At, .int .i64 t.Id] ++ (xs.drop i).flatMap Timer.cells = (xs.take i ++ t :: xs.drop i).flatMap Timer.cells := by
    rw [List.flatMap_append, List.flatMap_cons]; simp [Timer.cells]
  have h1b := timers_one (xs.drop i)
  generalize (xs.take i).flatMap Timer.cells = Xa at *
  generalize (xs.drop i).flatMap Timer.cells = Xb at *
  have hrd : ∀ j v, (Xa ++ Xb)[j]? = some v → w.cell? ⟨g, j, none⟩ = some v := by
    intro j v h
    rw [← hXX] at h
    have hl := (List.getElem?_eq_some_iff.1 h).1
    rw [ho.1] at hl
    rw [ho.cellAt j (by omega)]; exact h
  have hsz : (Try.prog.info? 52).map (·.size) = some 2 := by rw [hi0]; simp [hI1]
  have h1t : ∀ v ∈ [Value.int .i64 t.At, .int .i64 t.Id], v.oneCell' = true := by simp [Value.oneCell']
  have hl1 : ¬ (i : Int) = (n : Int) := by omega
  by_cases hroom : n + 1 ≤ cap
  · rcases ho.2 with ⟨hvn, _⟩ | ⟨g', cap', cur, hvn, _, hg, hnc, hcm, hcs, htake⟩
    · simp at hvn
    simp only [Value.slice.injEq, Option.some.injEq, Addr.mk.injEq, and_true, true_and] at hvn
    obtain ⟨rfl, rfl⟩ := hvn
    rw [hXX] at htake
    obtain ⟨e1, e2, e3⟩ := ins_row cur.toList Xa Xb [Value.int .i64 t.At, .int .i64 t.Id] i n htake hXa hXb rfl hi (by rw [Array.length_toList, hcs]; exact Nat.mul_le_mul_right _ hroom)
    have hcl : cur.size = cap * 2 := hcs
    have hcap2 : (n + 1) * 2 ≤ cap * 2 := Nat.mul_le_mul_right _ hroom
    have hni : (n - i) * 2 + i * 2 = n * 2 := by rw [← Nat.add_mul]; congr 1; omega
    have hov : ∀ lb cb, (callFunc 48 #[.slice (some ⟨vb, 0, none⟩) 1 1, .slice (some ⟨g, (i + 1) * 2, none⟩) lb cb]).run Try.prog w = .ok (.value (.bool false)) w := fun lb cb => by
      rw [run_callFunc_extern Try.func48 (by kernel_rfl) (by kernel_rfl) (by kernel_rfl) (e := Extern.SlicesOverlaps.overlaps #[24, 24] #[4]) (by kernel_rfl),
        Lib.run_overlaps_apart w 24 4 52 Try.underlying24 2 (fun W => by simp [go_sem]) ⟨vb, 0, none⟩ ⟨g, (i + 1) * 2, none⟩ 1 1 lb cb hne 52 52 2 cur.size (by simp [World.shape?, (show w.heap[vb]? = _ from hv)]) (by simp [World.shape?, hg]) (by omega) (hv.frozen 0) (hv.frozen 2)]
      rfl
    have hlen1 : (i + 1) * 2 + Xb.length ≤ cur.size := by rw [hXb, hcl]; omega
    have hlen2 : i * 2 + [Value.int .i64 t.At, .int .i64 t.Id].length ≤ cur.size := by show i * 2 + 2 ≤ _; rw [hcl]; omega
    obtain ⟨C1, hC1⟩ : ∃ C1, C1 = cur.toList.take ((i + 1) * 2) ++ Xb ++ cur.toList.drop ((i + 1) * 2 + Xb.length) := ⟨_, rfl⟩
    rw [← hC1] at e1 e2 e3
    obtain ⟨C2, hC2⟩ : ∃ C2, C2 = C1.take (i * 2) ++ [Value.int .i64 t.At, .int .i64 t.Id] ++ C1.drop (i * 2 + [Value.int .i64 t.At, .int .i64 t.Id].length) := ⟨_, rfl⟩
    rw [← hC2] at e2 e3
    obtain ⟨W1, hW1⟩ : ∃ W1, W1 = w.drew.setRow g C1.toArray := ⟨_, rfl⟩
    obtain ⟨W2, hW2⟩ : ∃ W2, W2 = W1.setRow g C2.toArray := ⟨_, rfl⟩
    have hg1 : W1.heap[g]? = some (.cells C1.toArray 52 (0, 0)) := by rw [hW1]; exact setRow_heap w.drew g cur _ _ _ hg
    have hg2 : W2.heap[g]? = some (.cells C2.toArray 52 (0, 0)) := by rw [hW2]; exact setRow_heap W1 g _ _ _ _ hg1
    have hv1 : W1.heap[vb]? = w.heap[vb]? := by rw [hW1]; exact setRow_other w.drew g vb _ hne
    have hcp1 : ∀ ty dc sc, (Builtin.copy_ #[24, 24] ty #[.slice (some ⟨g, (i + 1) * 2, none⟩) (n - i) dc, .slice (some ⟨g, i * 2, none⟩) (n + 1 - i) sc]).run Try.prog w.drew = .ok (goInt (n - i : Nat)) W1 := fun ty dc sc => by
      rw [hW1, hC1]
      exact run_copy_sized w.drew _ _ ty 52 g ((i + 1) * 2) (n - i) dc (n - i) 2 ⟨g, i * 2, none⟩ (n + 1 - i) sc cur 52 Xb Try.underlying24 hsz hg (by simp only [Nat.min_def]; split <;> omega) hXb
        (fun j v hj => by rw [addr_add_none]; exact hrd (i * 2 + j) v (by rw [List.getElem?_append_right (by omega), hXa, Nat.add_sub_cancel_left]; exact hj)) hlen1 h1b
    have hcp2 : ∀ ty dc, (Builtin.copy_ #[24, 24] ty #[.slice (some ⟨g, i * 2, none⟩) (n + 1 - i) dc, .slice (some ⟨vb, 0, none⟩) 1 1]).run Try.prog W1 = .ok (goInt 1) W2 := fun ty dc => by
      rw [hW2, hC2]
      have := run_copy_sized (P := Try.prog) W1 24 24 ty 52 g (i * 2) (n + 1 - i) dc 1 2 ⟨vb, 0, none⟩ 1 1 C1.toArray 52 [Value.int .i64 t.At, .int .i64 t.Id] Try.underlying24 hsz hg1 (by simp only [Nat.min_def]; split <;> omega) rfl
        (fun j v hj => by rw [addr_add_none, Nat.zero_add, cell_of_row W1 vb j _ _ (0, 0) (hv1.trans (show w.heap[vb]? = _ from hv))]; simpa using hj) (by rw [List.size_toArray, e1, Array.length_toList]; exact hlen2) h1t
      simpa using this
    have hgr : w.grownBy W2 (some g) := by
      rw [hW2, hW1]
      exact ⟨rfl, rfl, rfl, by simp [World.setRow], fun q _ hq => by rw [setRow_other _ g q _ (fun e => hq (by rw [e])), setRow_other _ g q _ (fun e => hq (by rw [e]))]; rfl⟩
    have HR := Lib.hid hRes
    have HF : Hid (W2.ownsRow base 52 2 (.slice (some ⟨g, 0, none⟩) (n + 1) cap) (n + 1) ((xs.take i ++ t :: xs.drop i).flatMap Timer.cells)) := Lib.hid (by
      rw [← hRes]
      refine ⟨by rw [List.length_append, List.length_append, hXa, hXb]; show i * 2 + 2 + (n - i) * 2 = _; omega, .inr ⟨g, cap, C2.toArray, rfl, hgb, hg2, hroom, hcm, by rw [List.size_toArray, e2, Array.length_toList]; exact hcl, by simpa using e3⟩⟩)
    have HG := Lib.hid hgr
    have hw1 : IntKind.i64.wrap ((i : Int) + 1) = (i : Int) + 1 := IntWalk.i64_in _ (by omega)
    have hb1 : (0 : Int) ≤ (i : Int) + 1 := by omega
    have htn : ((i : Int) + 1).toNat = i + 1 := by omega
    have hb2 : ¬ cap = i + 1 := by omega
    have hb3 : (i : Int) ≤ (n : Int) + 1 := by omega
    have hb4 : ¬ cap = i := by omega
    clear hC1 hC2 hW1 hW2 hg1 hg2 hv1 hgr hRes e1 e2 e3 htake hXX hXa hXb hlen1 hlen2 hrd hvc hcl hcap2 hni h1t h1b hcs hg hv hn hbase
    go_enter Try.func39, Try.ntmps39
    go_wp2_with (simp only [hov])
    go_region_law (refine step_copy_run rfl _ _ 24 24 rfl (.slice (some ⟨g, (i + 1) * 2, none⟩) (n - i) (cap - (i + 1))) (.slice (some ⟨g, i * 2, none⟩) (n + 1 - i) (cap - i)) (by simp [Act.eval, Act.put]) (by simp [Act.eval, Act.put]) (hcp1 _ _ _) ?_)
    all_goals
      go_wp2_with (first | (refine wpList_copy_run rfl _ _ 24 24 rfl _ _ rfl rfl (hcp2 _ _) ?_))
      go_ret
      exact ⟨some ⟨g, 0, none⟩, cap, rfl, HF.out, HG.out⟩
  · have hcn : cap < n + 1 := by omega
    have hkk : (n : Int) + 1 - (i : Int) = ((n + 1 - i : Nat) : Int) := by omega
    have hik : i + (n + 1 - i) = n + 1 := by omega
    have hni : (n - i) * 2 + i * 2 = n * 2 := by rw [← Nat.add_mul]; congr 1; omega
    have hold : (Builtin.firstCells i0.size i (.slice (some ⟨g, 0, none⟩) i cap)).run Try.prog w.drew = .ok Xa.toArray w.drew := by
      rw [hI1]
      refine run_firstCells_some w.drew 2 i ⟨g, 0, none⟩ i cap Xa hXa (fun j v hj => ?_)
      rw [addr_add_none, Nat.zero_add]
      exact hrd j v (by rw [List.getElem?_append_left (List.getElem?_eq_some_iff.1 hj).1]; exact hj)
    have hrz0 : ∀ ty, (Builtin.append_ #[24, 3] ty #[.slice (some ⟨g, 0, none⟩) i cap, .int .i64 ((n : Int) + 1 - (i : Int))]).run Try.prog w =
        .ok (.slice (some ⟨w.heap.size, 0, none⟩) (n + 1) (grownCap w (n + 1) cap 52)) (w.drew.alloc (.cells (Xa.toArray ++ Builtin.zeroCells (Value.agg #[.int .i64 0, .int .i64 0]).cells (n + 1 - i) ++ Builtin.zeroCells (Value.agg #[.int .i64 0, .int .i64 0]).cells (grownCap w (n + 1) cap 52 - (n + 1))) 52)) := fun ty => by
      have h := Lib.run_append_grow_zeros w 24 3 ty 52 i0 _ .i64 .i64 Try.underlying24 Try.underlying3 hi0 hI0 (some ⟨g, 0, none⟩) i cap Xa hold (n + 1 - i) (by omega) (by omega) (by omega) (by omega) (by rw [hI2]; omega) (by
        rw [hI2, hik]
        have h5 := nextslicecap_le hcn
        omega)
      rw [hik] at h
      rw [hkk]
      exact h
    obtain ⟨G, hG⟩ : ∃ G, G = grownCap w (n + 1) cap 52 := ⟨_, rfl⟩
    have hG1 : n + 1 ≤ G := by rw [hG]; exact grownCap_ge w _ _ _
    have hG2 : G ≤ maxLen := by rw [hG]; exact grownCap_le_maxLen w _ _ _ (by simp only [maxLen]; omega)
    obtain ⟨ROW, hROW⟩ : ∃ ROW : Array Value, ROW = Xa.toArray ++ Builtin.zeroCells (Value.agg #[.int .i64 0, .int .i64 0]).cells (n + 1 - i) ++ Builtin.zeroCells (Value.agg #[.int .i64 0, .int .i64 0]).cells (G - (n + 1)) := ⟨_, rfl⟩
    rw [← hG, ← hROW] at hrz0
    have hRs : ROW.size = G * 2 := by
      rw [hROW]
      simp only [Array.size_append, size_zeroCells, List.size_toArray, hXa]
      show i * 2 + (n + 1 - i) * 2 + (G - (n + 1)) * 2 = G * 2
      rw [← Nat.add_mul, ← Nat.add_mul]; congr 1; omega
    have hRt : ROW.toList.take (i * 2) = Xa := by
      rw [hROW]
      simp only [Array.toList_append, List.append_assoc]
      rw [List.take_append_of_le_length (by omega), List.take_of_length_le (by omega)]
    have hG3 : (n + 1) * 2 ≤ G * 2 := Nat.mul_le_mul_right _ hG1
    obtain ⟨f1, f2, f3⟩ := ins_row2 ROW.toList Xa Xb [Value.int .i64 t.At, .int .i64 t.Id] i n hRt hXa hXb rfl hi (by rw [Array.length_toList, hRs]; exact hG3)
    have hlen1 : i * 2 + [Value.int .i64 t.At, .int .i64 t.Id].length ≤ ROW.size := by show i * 2 + 2 ≤ _; rw [hRs]; omega
    have hlen2 : (i + 1) * 2 + Xb.length ≤ ROW.size := by rw [hXb, hRs]; omega
    obtain ⟨C1, hC1⟩ : ∃ C1, C1 = ROW.toList.take (i * 2) ++ [Value.int .i64 t.At, .int .i64 t.Id] ++ ROW.toList.drop (i * 2 + [Value.int .i64 t.At, .int .i64 t.Id].length) := ⟨_, rfl⟩
    rw [← hC1] at f1 f2 f3
    obtain ⟨C2, hC2⟩ : ∃ C2, C2 = C1.take ((i + 1) * 2) ++ Xb ++ C1.drop ((i + 1) * 2 + Xb.length) := ⟨_, rfl⟩
    rw [← hC2] at f2 f3
    obtain ⟨W0, hW0⟩ : ∃ W0, W0 = w.drew.alloc (.cells ROW 52) := ⟨_, rfl⟩
    obtain ⟨W1, hW1⟩ : ∃ W1, W1 = W0.setRow w.heap.size C1.toArray := ⟨_, rfl⟩
    obtain ⟨W2, hW2⟩ : ∃ W2, W2 = W1.drew.setRow w.heap.size C2.toArray := ⟨_, rfl⟩
    have hrz : ∀ ty, (Builtin.append_ #[24, 3] ty #[.slice (some ⟨g, 0, none⟩) i cap, .int .i64 ((n : Int) + 1 - (i : Int))]).run Try.prog w = .ok (.slice (some ⟨w.heap.size, 0, none⟩) (n + 1) G) W0 := fun ty => by rw [hW0]; exact hrz0 ty
    have hg0 : W0.heap[w.heap.size]? = some (.cells ROW 52 (0, 0)) := by rw [hW0]; exact heap_alloc_new w.drew _
    have hg1 : W1.heap[w.heap.size]? = some (.cells C1.toArray 52 (0, 0)) := by rw [hW1]; exact setRow_heap W0 _ _ _ _ _ hg0
    have hg2 : W2.heap[w.heap.size]? = some (.cells C2.toArray 52 (0, 0)) := by rw [hW2]; exact setRow_heap W1.drew _ _ _ _ _ hg1
    have hvl : vb < w.heap.size := hv.lt
    have hk0 : ∀ q, q < w.heap.size → W0.heap[q]? = w.heap[q]? := fun q hq => by rw [hW0]; exact Below.heap_alloc w.drew _ q hq
    have hk1 : ∀ q, q < w.heap.size → W1.heap[q]? = w.heap[q]? := fun q hq => by rw [hW1, setRow_other W0 _ q _ (by omega)]; exact hk0 q hq
    have hk2 : ∀ q, q < w.heap.size → W2.heap[q]? = w.heap[q]? := fun q hq => by rw [hW2, setRow_other W1.drew _ q _ (by omega)]; exact hk1 q hq
    have hcpA : ∀ ty dc, (Builtin.copy_ #[24, 24] ty #[.slice (some ⟨w.heap.size, i * 2, none⟩) (n + 1 - i) dc, .slice (some ⟨vb, 0, none⟩) 1 1]).run Try.prog W0 = .ok (goInt 1) W1 := fun ty dc => by
      rw [hW1, hC1]
      have := run_copy_sized (P := Try.prog) W0 24 24 ty 52 w.heap.size (i * 2) (n + 1 - i) dc 1 2 ⟨vb, 0, none⟩ 1 1 ROW 52 [Value.int .i64 t.At, .int .i64 t.Id] Try.underlying24 hsz hg0 (by simp only [Nat.min_def]; split <;> omega) rfl
        (fun j v hj => by rw [addr_add_none, Nat.zero_add, cell_of_row W0 vb j _ _ (0, 0) ((hk0 vb hvl).trans (show w.heap[vb]? = _ from hv))]; simpa using hj) hlen1 h1t
      simpa using this
    have hcpB : ∀ ty dc sc, (Builtin.copy_ #[24, 24] ty #[.slice (some ⟨w.heap.size, (i + 1) * 2, none⟩) (n - i) dc, .slice (some ⟨g, i * 2, none⟩) (n - i) sc]).run Try.prog W1.drew = .ok (goInt (n - i : Nat)) W2 := fun ty dc sc => by
      rw [hW2, hC2]
      have := run_copy_sized (P := Try.prog) W1.drew 24 24 ty 52 w.heap.size ((i + 1) * 2) (n - i) dc (n - i) 2 ⟨g, i * 2, none⟩ (n - i) sc C1.toArray 52 Xb Try.underlying24 hsz hg1 (by simp) hXb
        (fun j v hj => by
          have e9 : W1.drew.cell? ⟨g, i * 2 + j, none⟩ = w.cell? ⟨g, i * 2 + j, none⟩ := by
            have e8 : W1.drew.heap[g]? = w.heap[g]? := hk1 g hgl
            simp only [World.cell?, e8]
          rw [addr_add_none, e9]
          exact hrd (i * 2 + j) v (by rw [List.getElem?_append_right (by omega), hXa, Nat.add_sub_cancel_left]; exact hj)) (by rw [List.size_toArray, f1, Array.length_toList]; exact hlen2) h1b
      simpa using this
    have hgr : w.grownBy W2 (some g) := by
      refine ⟨?_, ?_, ?_, ?_, fun q hq _ => hk2 q hq⟩
      · rw [hW2, hW1, hW0]; rfl
      · rw [hW2, hW1, hW0]; rfl
      · rw [hW2, hW1, hW0]; rfl
      · have := (Array.getElem?_eq_some_iff.1 hg2).1; omega
    have HF : Hid (W2.ownsRow base 52 2 (.slice (some ⟨w.heap.size, 0, none⟩) (n + 1) G) (n + 1) ((xs.take i ++ t :: xs.drop i).flatMap Timer.cells)) := Lib.hid (by
      rw [← hRes]
      refine ⟨by rw [List.length_append, List.length_append, hXa, hXb]; show i * 2 + 2 + (n - i) * 2 = _; omega, .inr ⟨w.heap.size, G, C2.toArray, rfl, hbase, hg2, hG1, hG2, by rw [List.size_toArray, f2, Array.length_toList]; exact hRs, by simpa using f3⟩⟩)
    have HG := Lib.hid hgr
    have hw1 : IntKind.i64.wrap ((i : Int) + 1) = (i : Int) + 1 := IntWalk.i64_in _ (by omega)
    have hb1 : (0 : Int) ≤ (i : Int) + 1 := by omega
    have htn : ((i : Int) + 1).toNat = i + 1 := by omega
    have hGi : ¬ G = i := by omega
    have hGi1 : ¬ G = i + 1 := by omega
    have hb3 : (i : Int) + 1 ≤ (n : Int) + 1 := by omega
    have hb4 : ¬ cap = i := by omega
    have hb5 : (i : Int) ≤ (n : Int) := by omega
    have hx := HX0.out hb4
    simp only [Option.map_some, addr_add_none, Nat.zero_add] at hx
    subst hx
    clear HX0
    simp only [maxLen] at hG2
    clear hrz0 hC1 hC2 hW0 hW1 hW2 hg0 hg1 hg2 hk0 hk1 hk2 hgr hRes f1 f2 f3 hXX hXa hXb hlen1 hlen2 hrd hvc hni h1t h1b hv hn hbase hvl hRt hRs hROW hG hG3 hold hkk hik
    go_enter Try.func39, Try.ntmps39
    go_wp2_with (first
      | (refine Lib.wpList_append_run _ rfl _ _ _ _ rfl _ _ rfl rfl _ _ (hrz _) ?_)
      | (refine wpList_copy_run rfl _ _ 24 24 rfl _ _ rfl rfl (hcpA _ _) ?_))
    go_region_law (refine step_copy_run rfl _ _ 24 24 rfl (.slice (some ⟨w.heap.size, (i + 1) * 2, none⟩) (n - i) (G - (i + 1))) (.slice (some ⟨g, i * 2, none⟩) (n - i) (cap - i)) (by simp [Act.eval, Act.put]) (by simp [Act.eval, Act.put]) (hcpB _ _ _) ?_)
    all_goals
      go_wp2
      go_ret
      exact ⟨some ⟨w.heap.size, 0, none⟩, G, rfl, HF.out, HG.out⟩
end Go.Proofs.Ythahnaigdoiddaa

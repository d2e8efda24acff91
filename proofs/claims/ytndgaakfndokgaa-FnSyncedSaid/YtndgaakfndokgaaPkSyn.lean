/- What FnSynced says of logs, as plain data. The log under way: a disk in a box, a list of drawn records. alt of the laws. -/
import Derived.Test.YtndgaakfndokgaaPureRound
import Derived.Test.YtndgaakfndokgaaPkRead
import Derived.Test.YtndgaakfndokgaaPkLog
import Derived.Test.YtndgaakfndokgaaPkDrawR
import Derived.Test.YtndgaakfndokgaaDisk2
set_option linter.unusedSimpArgs false
set_option linter.unusedVariables false
set_option maxRecDepth 20000
namespace Go.Proofs.Ytndgaakfndokgaa
open Go.RowKit
/-- The disk after some appends; the first sy records are synced. -/
def synD (rs : List Record) (sy : Nat) : Disk := ⟨framesB (rs.take sy), framesB (rs.drop sy)⟩
/-- Records that have frames, all short. -/
def SynOk (rs : List Record) : Prop := rs.length ≤ 30 ∧ ∀ r ∈ rs, encOk r = true ∧ (frameB r).length ≤ 1000
theorem SynOk.enc {rs : List Record} (h : SynOk rs) : ∀ r ∈ rs, encOk r = true := fun r hr => (h.2 r hr).1
theorem frames_sum : ∀ {rs : List Record}, (∀ r ∈ rs, (frameB r).length ≤ 1000) → (framesB rs).length ≤ 1000 * rs.length
  | [], _ => by simp [framesB]
  | r :: rs, h => by
    have h1 := h r (List.mem_cons_self ..)
    have h2 := frames_sum (rs := rs) (fun q hq => h q (List.mem_cons_of_mem _ hq))
    rw [framesB_cons, List.length_append, List.length_cons, Nat.mul_succ]
    omega
theorem SynOk.len {rs : List Record} (h : SynOk rs) : (framesB rs).length ≤ 30000 := by
  have h1 := frames_sum (fun r hr => (h.2 r hr).2)
  have h2 := h.1
  omega
theorem synD_all (rs : List Record) (sy : Nat) : (synD rs sy).all = framesB rs := by
  unfold synD Disk.all
  dsimp only
  rw [← framesB_append, List.take_append_drop]
theorem synD_len (rs : List Record) (sy : Nat) : (synD rs sy).Safe.length + (synD rs sy).Loose.length = (framesB rs).length := by
  rw [← synD_all rs sy, all_len]
theorem synD_ok {rs : List Record} (h : SynOk rs) (sy : Nat) : (synD rs sy).ok = true := by
  unfold Disk.ok
  rw [synD_len, decide_eq_true_eq]
  have := h.len
  omega
theorem synD_sz {rs : List Record} (h : SynOk rs) (sy : Nat) : DiskR.sz (synD rs sy) ≤ 40000 := by
  rw [sz_Disk, sz_ByteS, sz_ByteS, synD_len]
  have := h.len
  omega
theorem syn_push {rs : List Record} (h : SynOk rs) (hl : rs.length < 30) {r : Record} (hr : encOk r = true) (hf : (frameB r).length ≤ 1000) : SynOk (rs ++ [r]) := by
  refine ⟨by rw [List.length_append, List.length_singleton]; omega, fun q hq => ?_⟩
  rcases List.mem_append.1 hq with h1 | h1
  · exact h.2 q h1
  · rw [List.mem_singleton.1 h1]; exact ⟨hr, hf⟩
theorem syn_app {rs : List Record} (h : SynOk rs) {sy : Nat} (hs : sy ≤ rs.length) (hl : rs.length < 30) {r : Record} (hr : encOk r = true) (hf : (frameB r).length ≤ 1000) : appB (synD rs sy) r = true ∧ appD (synD rs sy) r = synD (rs ++ [r]) sy := by
  have hb : appB (synD rs sy) r = true := by
    unfold appB fitB
    rw [synD_ok h, hr, synD_len]
    have h1 := frames_sum (fun r hr => (h.2 r hr).2)
    rw [decide_eq_true (by omega)]
    rfl
  refine ⟨hb, ?_⟩
  rw [appD_yes hb]
  unfold synD
  rw [List.take_append_of_le_length hs, List.drop_append_of_le_length hs, framesB_append]
  simp [framesB]
theorem syn_sync {rs : List Record} (h : SynOk rs) (sy : Nat) : syncLog (synD rs sy) = synD rs rs.length := by
  rw [syncLog_ok (synD_ok h sy)]
  have h1 := synD_all rs sy
  unfold Disk.all at h1
  rw [h1]
  unfold synD
  rw [List.take_length, List.drop_length]
  rfl
theorem syn_loose {rs : List Record} (h : SynOk rs) {sy : Nat} (hs : sy ≤ rs.length) : looseN (synD rs sy) = (rs.length : Int) - (sy : Int) := by
  rw [loose_yes (synD_ok h sy), synD_all, scan_all h.enc (by have := h.len; omega)]
  have h2 : (synD rs sy).Safe = framesB (rs.take sy) := rfl
  have h3 : (framesB (rs.take sy)).length ≤ (framesB rs).length := by
    rw [← synD_len rs sy, h2]; omega
  rw [h2, scan_all (fun r hr => h.enc r (List.mem_of_mem_take hr)) (by have := h.len; omega)]
  simp only [List.length_take]
  omega
/-- What is read after a crash. -/
structure SynCut (rs : List Record) (sy : Nat) (d : Disk) (j : Nat) : Prop where
  lo : sy ≤ j
  hi : j ≤ rs.length
  ok : d.ok = true
  rl : readL d = rs.take j
  rc : readC d = 0 ∨ readC d = 1
  rb : repB d = true
  rd : repD d = ⟨framesB (rs.take j), []⟩
  sz : DiskR.sz d ≤ 40000
theorem syn_crash {rs : List Record} (h : SynOk rs) {sy : Nat} (hs : sy ≤ rs.length) (k : Int) : ∃ j, SynCut rs sy (crashLog (synD rs sy) k) j := by
  have hlen := h.len
  have hdl := synD_len rs sy
  have hsz := crashLog_sz (synD rs sy) k
  have hsz2 := synD_sz h sy
  have hk := kept_le k (synD rs sy).Loose.length
  rw [crashLog_ok (synD_ok h sy)] at hsz ⊢
  have hL : (synD rs sy).Loose = framesB (rs.drop sy) := rfl
  have hS : (synD rs sy).Safe = framesB (rs.take sy) := rfl
  rw [hL, hS] at hdl
  rw [hL] at hk
  rw [hS, hL] at hsz ⊢
  generalize kept k (framesB (rs.drop sy)).length = m at *
  obtain ⟨j, hj, hj2, hj3⟩ := frames_take (rs.drop sy) m hk
  rw [List.length_drop] at hj
  have htake : rs.take (sy + j) = rs.take sy ++ (rs.drop sy).take j := List.take_add
  have hfr : framesB (rs.take sy) ++ framesB ((rs.drop sy).take j) = framesB (rs.take (sy + j)) := by rw [htake, framesB_append]
  have henc : ∀ r ∈ rs.take (sy + j), encOk r = true := fun r hr => h.enc r (List.mem_of_mem_take hr)
  have hall : Disk.all ⟨framesB (rs.take sy) ++ (framesB (rs.drop sy)).take m, []⟩ = framesB (rs.take sy) ++ (framesB (rs.drop sy)).take m := by simp [Disk.all]
  have hblen : (framesB (rs.take sy) ++ (framesB (rs.drop sy)).take m).length ≤ 30000 := by rw [List.length_append, List.length_take]; omega
  have hok : Disk.ok ⟨framesB (rs.take sy) ++ (framesB (rs.drop sy)).take m, []⟩ = true := by
    unfold Disk.ok
    rw [decide_eq_true_eq]
    simp only [List.length_nil]
    omega
  have hscan : ∃ c : Int, (c = 0 ∨ c = 1) ∧ scanF (framesB (rs.take sy) ++ (framesB (rs.drop sy)).take m) = (rs.take (sy + j), (framesB (rs.take (sy + j))).length, c) ∧ (framesB (rs.take sy) ++ (framesB (rs.drop sy)).take m).take (framesB (rs.take (sy + j))).length = framesB (rs.take (sy + j)) := by
    rcases hj3 with h1 | ⟨r, cut, h1, h2, h3, h4⟩
    · rw [h1, hfr] at hblen ⊢
      exact ⟨0, .inl rfl, scan_all henc (by omega), List.take_length⟩
    · rw [h4, ← List.append_assoc, hfr] at hblen ⊢
      have hr : encOk r = true := h.enc r (List.mem_of_mem_drop (List.mem_of_getElem? h1))
      exact ⟨1, .inr rfl, scan_cut henc hr h2 h3 (by omega), List.take_left⟩
  obtain ⟨c, hc, hscan, htk⟩ := hscan
  have hrb : repB ⟨framesB (rs.take sy) ++ (framesB (rs.drop sy)).take m, []⟩ = true := by
    unfold repB
    rw [hok, hall, hscan]
    rcases hc with rfl | rfl <;> rfl
  refine ⟨sy + j, by omega, by omega, hok, ?_, ?_, hrb, ?_, by omega⟩
  · rw [(read_yes hok).1, hall, hscan]
  · rw [(read_yes hok).2, hall, hscan]; exact hc
  · rw [repD_yes hrb, hall, hscan, htk]
theorem syn_again {rs : List Record} (h : SynOk rs) (j : Nat) : readL ⟨framesB (rs.take j), []⟩ = rs.take j ∧ readC ⟨framesB (rs.take j), []⟩ = 0 ∧ DiskR.sz ⟨framesB (rs.take j), []⟩ ≤ 40000 := by
  have h3 : (framesB (rs.take j)).length ≤ 30000 := by
    have h1 := h.len
    have h2 := synD_len rs j
    have : (synD rs j).Safe = framesB (rs.take j) := rfl
    rw [this] at h2
    omega
  have hok : Disk.ok ⟨framesB (rs.take j), []⟩ = true := by
    unfold Disk.ok
    rw [decide_eq_true_eq]
    simp only [List.length_nil]
    omega
  have hall : Disk.all ⟨framesB (rs.take j), []⟩ = framesB (rs.take j) := by simp [Disk.all]
  have hs := scan_all (rs := rs.take j) (fun r hr => h.enc r (List.mem_of_mem_take hr)) (by omega)
  refine ⟨by rw [(read_yes hok).1, hall, hs], by rw [(read_yes hok).2, hall, hs], ?_⟩
  rw [sz_Disk, sz_ByteS, sz_ByteS]
  simp only [List.length_nil]
  omega
theorem rewA_done : ∀ (rs : List Record) (acc : List UInt8), (∀ r ∈ rs, encOk r = true) → (acc ++ framesB rs).length ≤ 40000 → rewA rs acc = some (acc ++ framesB rs)
  | [], acc, _, _ => by simp [rewA, framesB]
  | r :: rs, acc, h, hl => by
    rw [framesB_cons, ← List.append_assoc] at hl ⊢
    have h1 : (acc ++ frameB r).length ≤ (acc ++ frameB r ++ framesB rs).length := by simp only [List.length_append]; omega
    rw [List.length_append] at h1
    rw [rewA, h r (List.mem_cons_self ..), decide_eq_true (by omega)]
    exact rewA_done rs _ (fun q hq => h q (List.mem_cons_of_mem _ hq)) hl
theorem syn_fresh {rs : List Record} (h : SynOk rs) (j : Nat) : rewB ⟨[], []⟩ (rs.take j) = true ∧ rewD ⟨[], []⟩ (rs.take j) = ⟨framesB (rs.take j), []⟩ := by
  have h3 : (framesB (rs.take j)).length ≤ 30000 := by
    have h1 := h.len
    have h2 := synD_len rs j
    have : (synD rs j).Safe = framesB (rs.take j) := rfl
    rw [this] at h2
    omega
  exact rew_some (by decide) (by
    have := rewA_done (rs.take j) [] (fun r hr => h.enc r (List.mem_of_mem_take hr)) (by rw [List.nil_append]; omega)
    simpa using this)
end Go.Proofs.Ytndgaakfndokgaa
namespace Go.Proofs.Ytndgaakfndokgaa
open Go.RowKit
def RecD.r (d : RecD) : Record := ⟨d.k, d.xs, d.ss⟩
def RecD.cells (d : RecD) : List Value := [.int .i64 d.k, .slice d.A1 d.xs.length d.c1, .slice d.A2 d.ss.length d.c2]
theorem RecD.len (d : RecD) : d.cells.length = 3 := rfl
/-- The blocks that may belong to the disk. -/
def SD (b3 : Nat) (w : World) (v : Value) (g : Nat) : Prop := b3 < g ∧ g < w.heap.size ∧ v.ownBlock ≠ some g
structure SynS (b3 : Nat) (w0 w : World) (A : Option Addr) (c : Nat) (ds : List RecD) (v0 v1 : Value) (D : Disk) : Prop where
  b : Blk w b3 41 #[v0, v1]
  dk : DiskR.Own w (SD b3 w (.slice A ds.length c)) [v0, v1] D
  ow : w.ownsRow (b3 + 1) 27 3 (.slice A ds.length c) ds.length (ds.flatMap RecD.cells)
  al : ∀ d ∈ ds, RIn w (fun q => q ≤ b3 ∨ (Value.slice A ds.length c).ownBlock = some q) d
  bw : Below w0.heap.size w0 w
  lo : w0.heap.size ≤ b3
theorem RIn.keep {w w' : World} {X : Nat → Prop} {d : RecD} (h : RIn w X d) (hb : Below w.heap.size w w') : RIn w' X d := h.out (T := fun _ => False) (Out.of_below hb) (fun _ h => h.elim)
theorem SynS.keep {b3 c : Nat} {w0 w w' : World} {A : Option Addr} {ds : List RecD} {v0 v1 : Value} {D : Disk} (h : SynS b3 w0 w A c ds v0 v1 D) (hb : Below w.heap.size w w') : SynS b3 w0 w' A c ds v0 v1 D :=
  ⟨h.b.keep hb, DiskR.own_wide (DiskR.own_keep h.dk hb) (fun g hg => ⟨hg.1, Nat.lt_of_lt_of_le hg.2.1 hb.size, hg.2.2⟩), own_below h.ow hb, fun d hd => (h.al d hd).keep hb, h.bw.trans (hb.mono h.bw.size), h.lo⟩
theorem SynS.rd {b3 c : Nat} {w0 w : World} {A : Option Addr} {ds : List RecD} {v0 v1 : Value} {D : Disk} (h : SynS b3 w0 w A c ds v0 v1 D) : DiskR.Rd w w.heap.size [v0, v1] D := DiskR.own_rd h.dk (fun g hg => hg.2.1)
/-- A new disk is stored. -/
theorem SynS.set {b3 c lo : Nat} {w0 w : World} {A : Option Addr} {ds : List RecD} {v0 v1 u0 u1 : Value} {D D' : Disk} (h : SynS b3 w0 w A c ds v0 v1 D) (hD : DiskR.Own w (InR lo w.heap.size) [u0, u1] D') (h3 : b3 < lo) (ho : ∀ q, (Value.slice A ds.length c).ownBlock = some q → q < lo) :
    SynS b3 w0 ((w.setCell ⟨b3, 0, none⟩ u0).setCell ⟨b3, 1, none⟩ u1) A c ds u0 u1 D' := by
  have hO : Out (fun q => q = b3) w ((w.setCell ⟨b3, 0, none⟩ u0).setCell ⟨b3, 1, none⟩ u1) := (out_set _ _ _ _).trans (out_set _ _ _ _)
  have hlo := h.lo
  refine ⟨(h.b.set_ 0 u0).set_ 1 u1, ?_, own_out h.ow hO (fun q hq e => by have := (h.ow.lt q hq).1; omega), fun d hd => (h.al d hd).out hO (fun q hq => Or.inl (by omega)), (h.bw.setCell (by simpa using hlo) _).setCell (by simpa using hlo) _, h.lo⟩
  refine DiskR.own_wide (DiskR.own_out hD hO (fun g hg e => by have := hg.1; omega)) (fun g hg => ⟨Nat.lt_of_lt_of_le h3 hg.1, by simpa using hg.2, fun e => by have := ho g e; have := hg.1; omega⟩)
/-- A record is appended to the list. -/
theorem SynS.push {b3 c gg cap lo : Nat} {w0 w wf : World} {A : Option Addr} {ds : List RecD} {v0 v1 : Value} {D : Disk} {d : RecD} {o : Obj} (h : SynS b3 w0 w A c ds v0 v1 D) (hd : RIn w (Low lo) d) (h3 : b3 < lo) (ho : ∀ q, (Value.slice A ds.length c).ownBlock = some q → q < lo)
    (hown : wf.ownsRow (b3 + 1) 27 3 (.slice (some ⟨gg, 0, none⟩) (ds.length + 1) cap) (ds.length + 1) (ds.flatMap RecD.cells ++ d.cells)) (hgr : (w.alloc o).grownBy wf (Value.slice A ds.length c).ownBlock)
    (hat : (Value.slice A ds.length c).ownBlock = some gg ∨ gg = (w.alloc o).heap.size) : SynS b3 w0 wf (some ⟨gg, 0, none⟩) cap (ds ++ [d]) v0 v1 D := by
  have hl : (ds ++ [d]).length = ds.length + 1 := by rw [List.length_append]; rfl
  have hlow : ∀ q, (Value.slice A ds.length c).ownBlock = some q → b3 + 1 ≤ q ∧ q < w.heap.size := fun q e => h.ow.lt q e
  have hb0 : Below w.heap.size w (w.alloc o) := (Below.refl _ w).alloc (Nat.le_refl _) o
  have hs0 : (w.alloc o).heap.size = w.heap.size + 1 := by simp
  have hsz := hgr.size
  have hb3 := h.b.lt
  have hw0 := h.bw.size
  have hlo0 := h.lo
  have hgg : gg ≠ b3 := by
    rcases hat with h6 | h6
    · have := (hlow gg h6).1; omega
    · omega
  have hob : (Value.slice (some ⟨gg, 0, none⟩) (ds ++ [d]).length cap).ownBlock = some gg := rfl
  refine ⟨(h.b.alloc o).grown hgr (fun e => by have := (hlow b3 e.symm).1; omega), ?_, ?_, ?_, ?_, h.lo⟩
  · refine DiskR.own_wide (DiskR.own_out (DiskR.own_keep h.dk hb0) (out_gr hgr) (fun g hg e => hg.2.2 e)) (fun g hg => ⟨hg.1, by have := hg.2.1; omega, fun e => ?_⟩)
    rw [hob] at e
    have e2 : gg = g := by simpa using e
    subst e2
    rcases hat with h6 | h6
    · exact hg.2.2 h6
    · have := hg.2.1; omega
  · rw [hl, List.flatMap_append]
    simpa using hown
  · intro d' hd'
    have hX : ∀ q, (q ≤ b3 ∨ (Value.slice (some ⟨gg, 0, none⟩) (ds ++ [d]).length cap).ownBlock = some q) → q ≤ b3 ∨ gg = q := fun q hq => by
      rcases hq with h1 | h1
      · exact Or.inl h1
      · rw [hob] at h1; exact Or.inr (by simpa using h1)
    rcases List.mem_append.1 hd' with h1 | h1
    · refine RIn.out (T := fun q => (Value.slice A ds.length c).ownBlock = some q) (w := w.alloc o) (X := fun q => (q ≤ b3 ∨ (Value.slice A ds.length c).ownBlock = some q) ∨ (w.alloc o).heap.size ≤ q) (((h.al d' h1).keep hb0).weak (fun q hq => hq)) (out_gr hgr) (fun q hq => Or.inl (Or.inr hq)) |>.weak (fun q hq => ?_)
      rcases hX q hq with h2 | h2
      · exact Or.inl (Or.inl (Or.inl h2))
      · subst h2
        rcases hat with h6 | h6
        · exact Or.inl (Or.inl (Or.inr h6))
        · exact Or.inl (Or.inr (by omega))
    · rw [List.mem_singleton.1 h1]
      refine RIn.out (T := fun q => (Value.slice A ds.length c).ownBlock = some q) (w := w.alloc o) (X := fun q => q < lo ∨ (w.alloc o).heap.size ≤ q) ((hd.keep hb0).weak (fun q hq => hq)) (out_gr hgr) (fun q hq => Or.inl (ho q hq)) |>.weak (fun q hq => ?_)
      rcases hX q hq with h2 | h2
      · exact Or.inl (Or.inl (by omega))
      · subst h2
        rcases hat with h6 | h6
        · exact Or.inl (Or.inl (ho _ h6))
        · exact Or.inl (Or.inr (by omega))
  · exact Below.grown (h.bw.alloc hw0 o) hgr (by omega) (fun q e => by have := (hlow q e).1; omega)
/-- The list as the laws read it. -/
theorem SynS.list {b3 c : Nat} {w0 w : World} {A : Option Addr} {ds : List RecD} {v0 v1 : Value} {D : Disk} (h : SynS b3 w0 w A c ds v0 v1 D) : SlRd RecordR w w.heap.size (.slice A ds.length c) (ds.map RecD.r) := by
  refine ⟨A, c, ds.map RecD.cells, by rw [List.length_map], by rw [List.length_map]; exact own_cap h.ow, own_max h.ow, RowsRd.of_reads (m := 3) RecD.len (by decide) (Reads.of_own h.ow), by rw [List.length_map, List.length_map], fun i cs x h1 h2 => ?_⟩
  rw [List.getElem?_map] at h1 h2
  cases hd : ds[i]? with
  | none => rw [hd] at h1; cases h1
  | some d =>
    rw [hd] at h1 h2
    simp only [Option.map_some, Option.some.injEq] at h1 h2
    subst h1 h2
    have hr := h.al d (List.mem_of_getElem? hd)
    exact of_rd_Record (x := d.r) hr.rd1 hr.rd2
set_option maxHeartbeats 800000 in
theorem laws_alt (A : Option Addr) (c : Nat) (xs : List UInt8) (k : Int) (w : World) (hr : Reads w w.heap.size A (xs.map byteV)) (hm : xs.length ≤ 1073741824) :
    Calls Try.prog 17 #[.slice A xs.length c, .int .i64 k] w fun e w' => ∃ (A1 : Option Addr) (c1 : Nat) (ys : List UInt8), e = .returned (.slice A1 ys.length c1) ∧ ys.length ≤ 3001 ∧ Reads w' w'.heap.size A1 (ys.map byteV) ∧ Below w.heap.size w w' := by
  obtain ⟨i0, hi0, hI0, hI1, hI2⟩ := info_parts info_uint8
  generalize hn : xs.length = n at hm
  have Hn := Lib.hid hn
  clear hn
  have HV := Lib.hid (byteV_mod k)
  go_enter Try.func17, Try.ntmps17
  go_wp2
  go_loopw [5, 6] (fun o i wr => ∃ (j : Nat) (A1 : Option Addr) (c1 : Nat) (ys : List UInt8), j ≤ n ∧ j ≤ 3000 ∧ i = .int .i64 j ∧ o = .slice A1 (j + 1) c1 ∧ wr.ownsRow w.heap.size 5 1 (.slice A1 (j + 1) c1) (j + 1) (ys.map byteV) ∧ Hid (ys.length = j + 1) ∧ Below w.heap.size w wr ∧ w.heap.size ≤ wr.heap.size) (fun _ i _ => n - (intOf i).toNat)
  case atStart => exact ⟨0, some ⟨w.heap.size, 0, none⟩, 1, [UInt8.ofNat (k % 256).toNat], Nat.zero_le _, Nat.zero_le _, rfl, rfl, by rw [List.map_cons, HV.out]; exact World.ownsRow_lit (size := 1) w #[.int .u8 (k % 256)] 1 (Nat.le_refl _) (by simp [maxLen]) rfl, rfl, by (repeat (first | (with_reducible exact Below.refl _ _) | (with_reducible assumption) | ((with_reducible refine Below.setCell ?_ ?_ _); rotate_left; focus (first | omega | (simp; done) | (simp; omega))) | ((with_reducible refine Below.alloc ?_ ?_ _); rotate_left; focus (first | omega | (simp; done) | (simp; omega))) | (with_reducible refine Below.drew ?_) | (with_reducible refine below_drewN ?_ _) | (refine Below.trans ?_ (Below.mono (by with_reducible assumption) (by (first | omega | (simp; done) | (simp; omega))))))), by simp⟩
  case round =>
    obtain ⟨j, A1, c1, ys, hj, hj2, rfl, rfl, hown, hyl, hb, hzr⟩ := hrel
    by_cases hlt : j < n
    · by_cases hlt2 : j < 3000
      · have hlx : j < (xs.map byteV).length := by simpa [Hn.out] using hlt
        obtain ⟨b, off, rfl, hab, hc1⟩ := hr.at_ hlx hb (Nat.le_refl _)
        obtain ⟨u, hu1, hu2, hu3⟩ := map_at byteV xs j hlx
        rw [hu1] at hc1
        clear hu1 hu2 hu3
        simp only [byteV] at hc1
        go_wp2_with (first | (at_builtin; go_loud (refine wpList_append_own_at _ rfl _ _ 22 rfl (w.heap.size) 5 i0 (.int .u8 0) 1 1 Try.underlying22 hi0 hI0 hI1 hI2 rfl (by decide) _ _ _ rfl (hown.alloc _) ⟨(wr).heap.size, 0, none⟩ 1 1 [.int .u8 u.toNat] rfl rfl ?c1 ?c2 ?c3 ?c4 ?c5 ?_; (case c1 => exact cell_one_new _ _ _); (case c2 => simp [Value.oneCell']); (case c3 => (simp only [maxLen]; omega)); (case c4 => omega); (case c5 => (simp; omega)); intro v' wA hown1 hgrow hnil hat; obtain ⟨gg, cap, rfl, hg1, hg2⟩ := hown1.form (by omega))))
        go_roundw
        case rel =>
          have hsz := hgrow.size
          simp at hsz
          refine ⟨j + 1, some ⟨gg, 0, none⟩, cap, ys ++ [u], by omega, by omega, by go_num, by rfl, ?_, Lib.hid (by rw [List.length_append, hyl.out]; rfl), ?_, by omega⟩
          · rw [List.map_append]; exact hown1
          · exact Below.grown (hb.alloc (by omega) _) hgrow (by simp; omega) (fun g e => (hown.lt _ e).1)
        case measure => simp [intOf]; omega
      · go_wp2
        go_ret
        exact ⟨A1, c1, ys, by rw [hyl.out]; rfl, by rw [hyl.out]; omega, Reads.of_own hown, hb⟩
    · go_wp2
      go_ret
      exact ⟨A1, c1, ys, by rw [hyl.out]; rfl, by rw [hyl.out]; omega, Reads.of_own hown, hb⟩
end Go.Proofs.Ytndgaakfndokgaa

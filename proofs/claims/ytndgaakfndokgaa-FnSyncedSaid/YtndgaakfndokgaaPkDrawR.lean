/- Data that can be read apart from some blocks. A drawn record. What DrawRecordOk and DrawEncodeRecord of the reference draw. -/
import Derived.Test.YtndgaakfndokgaaCur
import Derived.Test.YtndgaakfndokgaaStr
import Derived.Test.YtndgaakfndokgaaRecord2
set_option linter.unusedSimpArgs false
set_option linter.unusedVariables false
set_option maxRecDepth 20000
namespace Go.Proofs.Ytndgaakfndokgaa
open Go.RowKit
def Low (n : Nat) (g : Nat) : Prop := g < n
/-- Cells that can be read, in a block that is none of X. -/
def RdIn (w : World) (X : Nat → Prop) (A : Option Addr) (xs : List Value) : Prop := Reads w w.heap.size A xs ∧ ∀ b off i, A = some ⟨b, off, i⟩ → 0 < xs.length → ¬ X b
theorem RdIn.out {w w' : World} {X T : Nat → Prop} {A : Option Addr} {xs : List Value} (h : RdIn w X A xs) (ho : Out T w w') (hT : ∀ g, T g → X g) : RdIn w' X A xs := by
  obtain ⟨h1, h2⟩ := h
  refine ⟨fun h0 => ?_, h2⟩
  obtain ⟨b, off, e, hb, hc⟩ := h1 h0
  have hnx := h2 b off none e h0
  refine ⟨b, off, e, Nat.lt_of_lt_of_le hb ho.size, fun j u hu => ?_⟩
  rw [← hc j u hu]
  unfold World.cell?
  rw [ho.block b hb (fun ht => hnx (hT b ht))]
theorem RdIn.keep {w w' : World} {X : Nat → Prop} {A : Option Addr} {xs : List Value} (h : RdIn w X A xs) (hb : Below w.heap.size w w') : RdIn w' X A xs := h.out (T := fun _ => False) (Out.of_below hb) (fun _ h => h.elim)
theorem RdIn.weak {w : World} {X X' : Nat → Prop} {A : Option Addr} {xs : List Value} (h : RdIn w X A xs) (hX : ∀ b, X' b → X b ∨ w.heap.size ≤ b) : RdIn w X' A xs := by
  obtain ⟨h1, h2⟩ := h
  refine ⟨h1, fun b off i e h0 hx => ?_⟩
  obtain ⟨b', off', e', hb, -⟩ := h1 h0
  rw [e] at e'
  injection e' with e'
  injection e' with e1 e2 e3
  rcases hX b hx with h | h
  · exact h2 b off i e h0 h
  · omega
theorem RdIn.nil {w : World} {X : Nat → Prop} {A : Option Addr} : RdIn w X A [] := ⟨Reads.nil, fun _ _ _ _ h => absurd h (by simp)⟩
theorem RdIn.own {w : World} {base size n c : Nat} {e : TypeId} {X : Nat → Prop} {A : Option Addr} {xs : List Value} (h : w.ownsRow base e size (.slice A n c) n xs) (hX : ∀ b, X b → b < base ∨ ∀ q, (Value.slice A n c).ownBlock = some q → q ≠ b) : RdIn w X A xs := by
  refine ⟨Reads.of_own h, fun b off i ea h0 hx => ?_⟩
  have hb : (Value.slice A n c).ownBlock = some b := by rw [ea]; rfl
  rcases hX b hx with h1 | h1
  · have := (h.lt b hb).1; omega
  · exact h1 b hb rfl
end Go.Proofs.Ytndgaakfndokgaa
namespace Go.Proofs.Ytndgaakfndokgaa
open Go.RowKit
variable {B : Nat}
/-- A record under way. -/
structure RecD where
  k : Int
  xs : List Int
  A1 : Option Addr
  c1 : Nat
  ss : List ByteArray
  A2 : Option Addr
  c2 : Nat
structure RS (B g b4 b5 : Nat) (w0 w : World) (N1 N2 : Nat) (d : RecD) : Prop where
  z : Blk w b4 27 #[.int .i64 0, .slice none 0 0, .slice none 0 0]
  b : Blk w b5 27 #[.int .i64 d.k, .slice d.A1 d.xs.length d.c1, .slice d.A2 d.ss.length d.c2]
  o1 : w.ownsRow (b5 + 1) 3 1 (.slice d.A1 d.xs.length d.c1) d.xs.length (d.xs.map intV)
  o2 : w.ownsRow (b5 + 1) 9 1 (.slice d.A2 d.ss.length d.c2) d.ss.length (d.ss.map strV)
  ap : ∀ q, (Value.slice d.A1 d.xs.length d.c1).ownBlock = some q → (Value.slice d.A2 d.ss.length d.c2).ownBlock = some q → False
  cur : Cur B w g
  out : Out (fun q => q = g) w0 w
  n1 : d.xs.length ≤ N1
  n2 : d.ss.length ≤ N2
  sh : ∀ s ∈ d.ss, s.size ≤ 301
theorem Out.join {S T : Nat → Prop} {a b c : World} (h : Out S a b) (k : Out T b c) (hT : ∀ q, T q → S q ∨ a.heap.size ≤ q) : Out S a c :=
  ⟨k.os.trans h.os, k.tape.trans h.tape, k.output.trans h.output, Nat.le_trans h.size k.size, fun q hq hs => (k.block q (Nat.lt_of_lt_of_le hq h.size) (fun ht => by rcases hT q ht with h1 | h1; exact hs h1; omega)).trans (h.block q hq hs)⟩
theorem RS.move {g b4 b5 : Nat} {w0 w w' : World} {N1 N2 : Nat} {d : RecD} (h : RS B g b4 b5 w0 w N1 N2 d) (ho : Out (fun q => q = g) w w') (hc : Cur B w' g) (h4 : g < b4) (h5 : b4 < b5) : RS B g b4 b5 w0 w' N1 N2 d :=
  ⟨h.z.out ho (by omega), h.b.out ho (by omega), own_out h.o1 ho (fun q hq e => by have := (h.o1.lt q hq).1; omega), own_out h.o2 ho (fun q hq e => by have := (h.o2.lt q hq).1; omega), h.ap, hc, h.out.trans ho, h.n1, h.n2, h.sh⟩
theorem RS.weak {g b4 b5 : Nat} {w0 w : World} {N1 N2 M1 M2 : Nat} {d : RecD} (h : RS B g b4 b5 w0 w N1 N2 d) (h1 : N1 ≤ M1) (h2 : N2 ≤ M2) : RS B g b4 b5 w0 w M1 M2 d := ⟨h.z, h.b, h.o1, h.o2, h.ap, h.cur, h.out, Nat.le_trans h.n1 h1, Nat.le_trans h.n2 h2, h.sh⟩
theorem RS.tight {g b4 b5 : Nat} {w0 w : World} {N1 N2 : Nat} {d : RecD} (h : RS B g b4 b5 w0 w N1 N2 d) : RS B g b4 b5 w0 w d.xs.length d.ss.length d := ⟨h.z, h.b, h.o1, h.o2, h.ap, h.cur, h.out, Nat.le_refl _, Nat.le_refl _, h.sh⟩
theorem RS.ne {g b4 b5 : Nat} {w0 w : World} {N1 N2 : Nat} {d : RecD} (h : RS B g b4 b5 w0 w N1 N2 d) (q : Nat) (hq : q ≤ b5) : some q ≠ (Value.slice d.A1 d.xs.length d.c1).ownBlock ∧ some q ≠ (Value.slice d.A2 d.ss.length d.c2).ownBlock :=
  ⟨fun e => by have := (h.o1.lt _ e.symm).1; omega, fun e => by have := (h.o2.lt _ e.symm).1; omega⟩
def RecD.push1 (d : RecD) (x : Int) (gg cap : Nat) : RecD := ⟨d.k, d.xs ++ [x], some ⟨gg, 0, none⟩, cap, d.ss, d.A2, d.c2⟩
def RecD.push2 (d : RecD) (s : ByteArray) (gg cap : Nat) : RecD := ⟨d.k, d.xs, d.A1, d.c1, d.ss ++ [s], some ⟨gg, 0, none⟩, cap⟩
def RecD.kind (d : RecD) (k : Int) : RecD := ⟨k, d.xs, d.A1, d.c1, d.ss, d.A2, d.c2⟩
def RecD.none2 (d : RecD) : RecD := ⟨d.k, d.xs, d.A1, d.c1, [], none, 0⟩
theorem RS.push1 {g b4 b5 : Nat} {w0 w wf : World} {N1 N2 : Nat} {d : RecD} {x : Int} {gg cap : Nat} {o : Obj} (h : RS B g b4 b5 w0 w N1 N2 d) (h4 : g < b4) (h5 : b4 < b5) (h0 : w0.heap.size ≤ b4)
    (hown : wf.ownsRow (b5 + 1) 3 1 (.slice (some ⟨gg, 0, none⟩) (d.xs.length + 1) cap) (d.xs.length + 1) (d.xs.map intV ++ [intV x])) (hgr : (w.alloc o).grownBy wf (Value.slice d.A1 d.xs.length d.c1).ownBlock)
    (hat : (Value.slice d.A1 d.xs.length d.c1).ownBlock = some gg ∨ gg = (w.alloc o).heap.size) : RS B g b4 b5 w0 (wf.setCell ⟨b5, 1, none⟩ (.slice (some ⟨gg, 0, none⟩) (d.xs.length + 1) cap)) (N1 + 1) N2 (d.push1 x gg cap) := by
  have hl : (d.xs ++ [x]).length = d.xs.length + 1 := by rw [List.length_append]; rfl
  have hg5 := (hown.lt gg rfl).1
  have hBg := h.cur.le
  have hcb : Cur B (w.alloc o) g := h.cur.below ((Below.refl _ w).alloc (Nat.le_refl _) o)
  have hne : ∀ q, (Value.slice d.A1 d.xs.length d.c1).ownBlock = some q → b5 + 1 ≤ q := fun q e => (h.o1.lt q e).1
  refine ⟨((h.z.alloc o).grown hgr (h.ne b4 (by omega)).1).far (by first | omega | (simp; done) | (simp; omega)) _, ?_, ?_, ?_, ?_, (hcb.out (out_gr hgr) (fun q e => by have := hne q e; omega)).out (out_set _ _ _ _) (fun q hq => by omega), (Out.growR (h.out.alloc o) hgr (fun q e => by have := hne q e; omega)).newer (by first | omega | (simp; done) | (simp; omega)) _, ?_, h.n2, h.sh⟩
  · have := ((h.b.alloc o).grown hgr (h.ne b5 (by omega)).1).set_ 1 (.slice (some ⟨gg, 0, none⟩) (d.xs.length + 1) cap)
    unfold RecD.push1
    dsimp only
    rw [hl]
    exact this
  · unfold RecD.push1
    dsimp only
    rw [hl, List.map_append]
    exact own_setCell hown (by first | omega | (simp; done) | (simp; omega)) _
  · refine own_setCell (own_out (h.o2.alloc o) (out_gr hgr) (fun q hq e => h.ap q e hq)) (by first | omega | (simp; done) | (simp; omega)) _
  · intro q hq hq2
    unfold RecD.push1 at hq hq2
    dsimp only at hq hq2
    have e : gg = q := by simpa [Value.ownBlock] using hq
    subst e
    rcases hat with h6 | h6
    · exact h.ap gg h6 hq2
    · have := (h.o2.lt gg hq2).2
      simp at h6
      omega
  · unfold RecD.push1
    dsimp only
    rw [hl]
    have := h.n1
    omega
theorem RS.push2 {g b4 b5 : Nat} {w0 w wf : World} {N1 N2 : Nat} {d : RecD} {s : ByteArray} {gg cap : Nat} {o : Obj} (h : RS B g b4 b5 w0 w N1 N2 d) (h4 : g < b4) (h5 : b4 < b5) (h0 : w0.heap.size ≤ b4) (hs : s.size ≤ 301)
    (hown : wf.ownsRow (b5 + 1) 9 1 (.slice (some ⟨gg, 0, none⟩) (d.ss.length + 1) cap) (d.ss.length + 1) (d.ss.map strV ++ [strV s])) (hgr : (w.alloc o).grownBy wf (Value.slice d.A2 d.ss.length d.c2).ownBlock)
    (hat : (Value.slice d.A2 d.ss.length d.c2).ownBlock = some gg ∨ gg = (w.alloc o).heap.size) : RS B g b4 b5 w0 (wf.setCell ⟨b5, 2, none⟩ (.slice (some ⟨gg, 0, none⟩) (d.ss.length + 1) cap)) N1 (N2 + 1) (d.push2 s gg cap) := by
  have hl : (d.ss ++ [s]).length = d.ss.length + 1 := by rw [List.length_append]; rfl
  have hg5 := (hown.lt gg rfl).1
  have hBg := h.cur.le
  have hcb : Cur B (w.alloc o) g := h.cur.below ((Below.refl _ w).alloc (Nat.le_refl _) o)
  have hne : ∀ q, (Value.slice d.A2 d.ss.length d.c2).ownBlock = some q → b5 + 1 ≤ q := fun q e => (h.o2.lt q e).1
  refine ⟨((h.z.alloc o).grown hgr (h.ne b4 (by omega)).2).far (by first | omega | (simp; done) | (simp; omega)) _, ?_, ?_, ?_, ?_, (hcb.out (out_gr hgr) (fun q e => by have := hne q e; omega)).out (out_set _ _ _ _) (fun q hq => by omega), (Out.growR (h.out.alloc o) hgr (fun q e => by have := hne q e; omega)).newer (by first | omega | (simp; done) | (simp; omega)) _, h.n1, ?_, ?_⟩
  · have := ((h.b.alloc o).grown hgr (h.ne b5 (by omega)).2).set_ 2 (.slice (some ⟨gg, 0, none⟩) (d.ss.length + 1) cap)
    unfold RecD.push2
    dsimp only
    rw [hl]
    exact this
  · refine own_setCell (own_out (h.o1.alloc o) (out_gr hgr) (fun q hq e => h.ap q hq e)) (by first | omega | (simp; done) | (simp; omega)) _
  · unfold RecD.push2
    dsimp only
    rw [hl, List.map_append]
    exact own_setCell hown (by first | omega | (simp; done) | (simp; omega)) _
  · intro q hq hq2
    unfold RecD.push2 at hq hq2
    dsimp only at hq hq2
    have e : gg = q := by simpa [Value.ownBlock] using hq2
    subst e
    rcases hat with h6 | h6
    · exact h.ap gg hq h6
    · have := (h.o1.lt gg hq).2
      simp at h6
      omega
  · unfold RecD.push2
    dsimp only
    rw [hl]
    have := h.n2
    omega
  · intro u hu
    unfold RecD.push2 at hu
    dsimp only at hu
    rcases List.mem_append.1 hu with h1 | h1
    · exact h.sh u h1
    · rw [List.mem_singleton.1 h1]; exact hs
theorem RS.kind {g b4 b5 : Nat} {w0 w : World} {N1 N2 : Nat} {d : RecD} (h : RS B g b4 b5 w0 w N1 N2 d) (h4 : g < b4) (h5 : b4 < b5) (h0 : w0.heap.size ≤ b4) (k : Int) : RS B g b4 b5 w0 (w.setCell ⟨b5, 0, none⟩ (.int .i64 k)) N1 N2 (d.kind k) := by
  have hBg := h.cur.le
  exact ⟨h.z.far (by first | omega | (simp; done) | (simp; omega)) _, h.b.set_ 0 (.int .i64 k), own_setCell h.o1 (by first | omega | (simp; done) | (simp; omega)) _, own_setCell h.o2 (by first | omega | (simp; done) | (simp; omega)) _, h.ap, h.cur.out (out_set _ _ _ _) (fun q hq => by omega), h.out.newer (by first | omega | (simp; done) | (simp; omega)) _, h.n1, h.n2, h.sh⟩
theorem RS.none2 {g b4 b5 : Nat} {w0 w : World} {N1 N2 : Nat} {d : RecD} (h : RS B g b4 b5 w0 w N1 N2 d) (h4 : g < b4) (h5 : b4 < b5) (h0 : w0.heap.size ≤ b4) : RS B g b4 b5 w0 (w.setCell ⟨b5, 2, none⟩ (.slice none 0 0)) N1 0 d.none2 := by
  have hBg := h.cur.le
  exact ⟨h.z.far (by first | omega | (simp; done) | (simp; omega)) _, h.b.set_ 2 (.slice none 0 0), own_setCell h.o1 (by first | omega | (simp; done) | (simp; omega)) _, World.ownsRow_nil _ _ _ _, fun q _ h2 => by unfold RecD.none2 at h2; simp [Value.ownBlock] at h2, h.cur.out (out_set _ _ _ _) (fun q hq => by omega), h.out.newer (by first | omega | (simp; done) | (simp; omega)) _, h.n1, Nat.le_refl _, fun s hs => by simp [RecD.none2] at hs⟩
/-- A record that was drawn. -/
structure RIn (w : World) (X : Nat → Prop) (d : RecD) : Prop where
  r1 : RdIn w X d.A1 (d.xs.map intV)
  r2 : RdIn w X d.A2 (d.ss.map strV)
  p1 : d.xs.length ≤ d.c1
  p2 : d.ss.length ≤ d.c2
  m1 : d.c1 ≤ 9223372036854775807
  m2 : d.c2 ≤ 9223372036854775807
  n1 : d.xs.length ≤ 100
  n2 : d.ss.length ≤ 100
  sh : ∀ s ∈ d.ss, s.size ≤ 301
theorem RIn.out {w w' : World} {X T : Nat → Prop} {d : RecD} (h : RIn w X d) (ho : Out T w w') (hT : ∀ g, T g → X g) : RIn w' X d := ⟨h.r1.out ho hT, h.r2.out ho hT, h.p1, h.p2, h.m1, h.m2, h.n1, h.n2, h.sh⟩
theorem RIn.weak {w : World} {X X' : Nat → Prop} {d : RecD} (h : RIn w X d) (hX : ∀ b, X' b → X b ∨ w.heap.size ≤ b) : RIn w X' d := ⟨h.r1.weak hX, h.r2.weak hX, h.p1, h.p2, h.m1, h.m2, h.n1, h.n2, h.sh⟩
theorem own_max {w : World} {base n c size : Nat} {e : TypeId} {A : Option Addr} {xs : List Value} (h : w.ownsRow base e size (.slice A n c) n xs) : c ≤ 9223372036854775807 := by
  rcases h.2 with ⟨hv, hn⟩ | ⟨g, cap, cur, hv, _, _, _, hcm, _⟩
  · simp only [Value.slice.injEq] at hv; omega
  · simp only [Value.slice.injEq] at hv; simp only [maxLen] at hcm; omega
theorem RIn.rd1 {w : World} {X : Nat → Prop} {d : RecD} (h : RIn w X d) : SlRd intR w w.heap.size (.slice d.A1 d.xs.length d.c1) d.xs := of_rd_IntS h.r1.1 h.p1 h.m1
theorem RIn.rd2 {w : World} {X : Nat → Prop} {d : RecD} (h : RIn w X d) : SlRd strR w w.heap.size (.slice d.A2 d.ss.length d.c2) d.ss := of_rd_StringS h.r2.1 h.p2 h.m2 (fun s hs => by have := h.sh s hs; omega)
theorem strSum_301 : ∀ xs : List ByteArray, (∀ s ∈ xs, s.size ≤ 301) → strSum xs ≤ 301 * xs.length
  | [], _ => by simp [strSum]
  | x :: xs, h => by
    have h1 := h x (by simp)
    have h2 := strSum_301 xs (fun s hs => h s (by simp [hs]))
    have h3 : strSum (x :: xs) = x.size + strSum xs := by simp [strSum]
    rw [h3, List.length_cons, Nat.mul_succ]; omega
theorem RIn.sz {w : World} {X : Nat → Prop} {d : RecD} (h : RIn w X d) : RecordR.sz ⟨d.k, d.xs, d.ss⟩ ≤ 100000 := by
  rw [sz_Record, sz_IntS, sz_StringS]
  have h1 := strSum_301 d.ss h.sh
  have h2 := h.n1
  have h3 := h.n2
  dsimp only
  omega
def lenAt (w : World) (b : Nat) : Nat := match w.cell? ⟨b, 1, none⟩ with | some (.slice _ n _) => n | _ => 0
theorem RS.lenAt {g b4 b5 : Nat} {w0 w : World} {N1 N2 : Nat} {d : RecD} (h : RS B g b4 b5 w0 w N1 N2 d) : Go.Proofs.Ytndgaakfndokgaa.lenAt w b5 = d.xs.length := by
  unfold Go.Proofs.Ytndgaakfndokgaa.lenAt
  rw [h.b.cell 1]
  rfl
theorem spec_pickLitD (g : Nat) (w : World) (cs : List Int) (hc : Cur B w g) (h0 : 0 < cs.length) (hl : cs.length ≤ 1000) :
    Calls Try.prog 58 #[.pointer (some ⟨g, 0, none⟩), .slice (some ⟨w.heap.size, 0, none⟩) cs.length cs.length] (w.alloc (.cells (cs.map intV).toArray 3)).drew fun e w' => ∃ x : Int, e = .returned (.int .i64 x) ∧ x ∈ cs ∧ Cur B w' g ∧ Out (fun q => q = g) w w' ∧ w.heap.size + 1 ≤ w'.heap.size := by
  have hb : Below w.heap.size w (w.alloc (.cells (cs.map intV).toArray 3)).drew := by (repeat (first | (with_reducible exact Below.refl _ _) | (with_reducible assumption) | ((with_reducible refine Below.setCell ?_ ?_ _); rotate_left; focus (first | omega | (simp; done) | (simp; omega))) | ((with_reducible refine Below.alloc ?_ ?_ _); rotate_left; focus (first | omega | (simp; done) | (simp; omega))) | (with_reducible refine Below.drew ?_) | (with_reducible refine below_drewN ?_ _) | (refine Below.trans ?_ (Below.mono (by with_reducible assumption) (by (first | omega | (simp; done) | (simp; omega)))))))
  have hgl := hc.lt
  have hB : Blk (w.alloc (.cells (cs.map intV).toArray 3)).drew w.heap.size 3 (cs.map intV).toArray := (Blk.new' rfl).drew
  refine (spec_l01PickInt g _ _ cs (fun x => x ∈ cs) _ (hc.below hb) (Reads.of_blk hB) (fun b off hb => by simp only [Option.some.injEq, Addr.mk.injEq] at hb; omega) h0 hl (fun _ h => h)).mono ?_
  rintro e w' ⟨x, rfl, hx, hd⟩
  have hs := hd.size
  exact ⟨x, rfl, hx, hd.1, (Out.of_below hb).trans hd.2, by simpa using hs⟩
set_option maxHeartbeats 3200000 in
theorem spec_l05DrawNum (g : Nat) (w : World) (hc : Cur B w g) :
    Calls Try.prog 55 #[.pointer (some ⟨g, 0, none⟩)] w fun e w' => ∃ x : Int, e = .returned (.int .i64 x) ∧ Cur B w' g ∧ Out (fun q => q = g) w w' := by
  go_enter Try.func55, Try.ntmps55
  go_wp2_with fail
  refine (spec_l01Below g 16777216 _ hc (by omega)).mono ?_
  rintro e w1 ⟨x, rfl, hx0, hx1, -, hd1⟩
  have hx := hx1 (by omega)
  go_wp2_with fail
  refine (spec_l01Below g 16777216 _ hd1.1 (by omega)).mono ?_
  rintro e w2 ⟨y, rfl, hy0, hy1, -, hd2⟩
  have hy := hy1 (by omega)
  go_wp2_with fail
  refine (spec_pickLit g w2 [0, 1, -1, 63, 64, -64, -65, x, -y, 1099511627776, -1099511627776] hd2.1 (by simp) (by simp)).mono ?_
  rintro e w3 ⟨v, rfl, -, hc3, hO3, -⟩
  go_wp2
  go_ret
  exact ⟨v, rfl, hc3, (hd1.2.trans hd2.2).trans hO3⟩
set_option maxHeartbeats 12800000 in
theorem spec_l05DrawRecord (g N : Nat) (w : World) (hc : Cur B w g) (hN : N ≤ 20) :
    Calls Try.prog 37 #[.pointer (some ⟨g, 0, none⟩), .int .i64 N] w fun e w' => ∃ d : RecD, e = .returned (.agg #[.int .i64 d.k, .slice d.A1 d.xs.length d.c1, .slice d.A2 d.ss.length d.c2]) ∧ RIn w' (Low w.heap.size) d ∧ Cur B w' g ∧ Out (fun q => q = g) w w' := by
  obtain ⟨i0, hi0, hI0, hI1, hI2⟩ := info_parts info_int
  obtain ⟨j0, hj0, hJ0, hJ1, hJ2⟩ := info_parts info_string
  have hgl := hc.lt
  have hBg := hc.le
  have hbA : Below w.heap.size w (w.alloc (.cells #[.int .i64 0, .slice none 0 0, .slice none 0 0] 27)) := by (repeat (first | (with_reducible exact Below.refl _ _) | (with_reducible assumption) | ((with_reducible refine Below.setCell ?_ ?_ _); rotate_left; focus (first | omega | (simp; done) | (simp; omega))) | ((with_reducible refine Below.alloc ?_ ?_ _); rotate_left; focus (first | omega | (simp; done) | (simp; omega))) | (with_reducible refine Below.drew ?_) | (with_reducible refine below_drewN ?_ _) | (refine Below.trans ?_ (Below.mono (by with_reducible assumption) (by (first | omega | (simp; done) | (simp; omega)))))))
  have B4 : Blk (w.alloc (.cells #[.int .i64 0, .slice none 0 0, .slice none 0 0] 27)) w.heap.size 27 #[.int .i64 0, .slice none 0 0, .slice none 0 0] := Blk.new' rfl
  have hcA := hc.below hbA
  go_enter Try.func37, Try.ntmps37
  go_wp2_with fail
  have HsA : Hid (w.heap.size + 1 = (w.alloc (.cells #[.int .i64 0, .slice none 0 0, .slice none 0 0] 27)).heap.size) := Lib.hid (by simp)
  generalize (w.alloc (.cells #[.int .i64 0, .slice none 0 0, .slice none 0 0] 27)) = wa at *
  have hsA := HsA.out
  refine (spec_l01Below g 100 _ hcA (by omega)).mono ?_
  rintro e w1 ⟨x0, rfl, hx00, hx01, -, hd1⟩
  have hs1 := hd1.size
  have B41 := B4.out hd1.2 (by omega)
  have hb5 : Below w1.heap.size w1 (w1.alloc (.cells #[.int .i64 x0, .slice none 0 0, .slice none 0 0] 27)) := by (repeat (first | (with_reducible exact Below.refl _ _) | (with_reducible assumption) | ((with_reducible refine Below.setCell ?_ ?_ _); rotate_left; focus (first | omega | (simp; done) | (simp; omega))) | ((with_reducible refine Below.alloc ?_ ?_ _); rotate_left; focus (first | omega | (simp; done) | (simp; omega))) | (with_reducible refine Below.drew ?_) | (with_reducible refine below_drewN ?_ _) | (refine Below.trans ?_ (Below.mono (by with_reducible assumption) (by (first | omega | (simp; done) | (simp; omega)))))))
  have B5 : Blk (w1.alloc (.cells #[.int .i64 x0, .slice none 0 0, .slice none 0 0] 27)) w1.heap.size 27 #[.int .i64 x0, .slice none 0 0, .slice none 0 0] := Blk.new' rfl
  have hR0 : RS B g w.heap.size w1.heap.size w (w1.alloc (.cells #[.int .i64 x0, .slice none 0 0, .slice none 0 0] 27)) 0 0 ⟨x0, [], none, 0, [], none, 0⟩ := ⟨B41.keep hb5, B5, World.ownsRow_nil _ _ _ _, World.ownsRow_nil _ _ _ _, fun q h1 _ => by simp [Value.ownBlock] at h1, hd1.1.below hb5, ((Out.of_below (S := fun q => q = g) hbA).trans hd1.2).trans (Out.of_below hb5), Nat.le_refl _, Nat.le_refl _, fun s hs => by simp at hs⟩
  go_upto_region 2 with fail
  generalize (w1.alloc (.cells #[.int .i64 x0, .slice none 0 0, .slice none 0 0] 27)) = w5 at *
  obtain ⟨b5, hb5e⟩ : ∃ b, b = w1.heap.size := ⟨_, rfl⟩
  obtain ⟨b4, hb4e⟩ : ∃ b, b = w.heap.size := ⟨_, rfl⟩
  rw [← hb5e, ← hb4e] at hR0
  rw [← hb5e, ← hb4e]
  have h4 : g < b4 := by omega
  have h5 : b4 < b5 := by omega
  have h0 : w.heap.size ≤ b4 := by omega
  generalize (⟨x0, [], none, 0, [], none, 0⟩ : RecD) = d0 at hR0
  clear B4 B41 hb5 B5 hb5e hb4e HsA hsA hbA hcA hs1 hd1 hx00 hx01
  go_wp2_with fail
  refine (spec_l01Below g N _ hR0.cur (by omega)).mono ?_
  rintro e w6 ⟨x1, rfl, hx10, hx11, hx12, hd6⟩
  have hx1 : x1 ≤ 20 := by by_cases h : (0 : Int) < N; have := hx11 h; omega; have := hx12 (by omega); omega
  have hR6 := hR0.move hd6.2 hd6.1 h4 h5
  clear hR0 hd6 hx11 hx12
  go_wp2_with fail
  go_loopw [6] (fun i wr => ∃ (k : Int) (d : RecD), i = .int .i64 k ∧ 0 ≤ k ∧ k ≤ x1 ∧ RS B g b4 b5 w wr (x1 - k).toNat 0 d) (fun i _ => (intOf i).toNat)
  case atStart => exact ⟨x1, d0, rfl, hx10, Int.le_refl _, hR6.weak (Nat.zero_le _) (Nat.le_refl _)⟩
  case round =>
    clear hR6
    obtain ⟨k, d, rfl, hk0, hk1, hR⟩ := hrel
    have hcB := hR.b.cell; have hfB := hR.b.frozen; have hlB := hR.b.lt; have hn1B := hR.n1; have hn2B := hR.n2
    by_cases hlt : 0 < k
    · have hw1 : IntKind.i64.wrap (k - 1) = k - 1 := IntWalk.i64_in _ (by omega)
      go_wp2_with fail
      go_region_law (first | (go_loud (refine step_append_lies _ (by rfl) _ _ _ (by rfl) (b5 + 1) 3 i0 _ 1 8 Try.underlying24 hi0 hI0 hI1 hI2 rfl (by omega) (.slice d.A1 d.xs.length d.c1) d.xs.length _ (by rfl) (RA.o1.alloc _) ⟨wA.heap.size, 0, none⟩ 1 1 [.int .i64 y] (by rfl) (by rfl) (World.news_of_block (cs := #[.int .i64 y]) (t := 3) (fr := (0, 0)) (heap_alloc_new wA _)) (by simp [Value.oneCell']) (by omega) (by simp only [maxLen]; omega) (by omega) (by simp; omega) (wA.heap.size + 1) (by simp) ?_; intro gg cap wf hown1 hgrow hat hlt1; have BY := Blk.grown (RA.b.alloc (.cells #[.int .i64 y] 3)) hgrow (RA.ne b5 (by omega)).1; have hcY := BY.cell; have hfY := BY.frozen)) | (go_simp; go_at_call 55; refine (spec_l05DrawNum g _ (hR.cur.below (by (repeat (first | (with_reducible exact Below.refl _ _) | (with_reducible assumption) | ((with_reducible refine Below.setCell ?_ ?_ _); rotate_left; focus (first | omega | (simp; done) | (simp; omega))) | ((with_reducible refine Below.alloc ?_ ?_ _); rotate_left; focus (first | omega | (simp; done) | (simp; omega))) | (with_reducible refine Below.drew ?_) | (with_reducible refine below_drewN ?_ _) | (refine Below.trans ?_ (Below.mono (by with_reducible assumption) (by (first | omega | (simp; done) | (simp; omega)))))))))).mono ?_; rintro e wA ⟨y, rfl, hcuA, hdA⟩; have hOg : Out (fun q => q = g) wr wA := (Out.trans (Out.of_below (by (repeat (first | (with_reducible exact Below.refl _ _) | (with_reducible assumption) | ((with_reducible refine Below.setCell ?_ ?_ _); rotate_left; focus (first | omega | (simp; done) | (simp; omega))) | ((with_reducible refine Below.alloc ?_ ?_ _); rotate_left; focus (first | omega | (simp; done) | (simp; omega))) | (with_reducible refine Below.drew ?_) | (with_reducible refine below_drewN ?_ _) | (refine Below.trans ?_ (Below.mono (by with_reducible assumption) (by (first | omega | (simp; done) | (simp; omega))))))))) hdA); have RA := hR.move hOg hcuA h4 h5; have hcA := RA.b.cell; have hfA := RA.b.frozen; have hlA := RA.b.lt; have hn1A := RA.n1; have hn2A := RA.n2; have hcA2 := (RA.b.alloc (.cells #[.int .i64 y] 3)).cell))
      all_goals
        have R9 := RA.push1 (x := y) h4 h5 h0 hown1 hgrow (by rcases hat with h | h; exact Or.inl h; exact Or.inr (by rw [h]; simp))
        go_wp2_with fail
        go_roundw
        case rel => exact ⟨k - 1, _, rfl, by omega, by omega, R9.weak (by omega) (Nat.le_refl _)⟩
        case measure => simp [intOf]; omega
    · obtain rfl : k = 0 := by omega
      have hR1 := hR.weak (M1 := 20) (M2 := 0) (by omega) (Nat.le_refl _)
      clear hR hn1B hn2B
      go_wp2_with fail
      refine (spec_l01Below g ((N : Int) / 2 + 2) _ hR1.cur (by omega)).mono ?_
      rintro e w7 ⟨x2, rfl, hx20, hx21, -, hd7⟩
      have hx2 := hx21 (by omega)
      have hR7 := hR1.move hd7.2 hd7.1 h4 h5
      clear hR1 hd7 hx21 hcB hfB hlB
      go_wp2_with fail
      go_loopw [7] (fun i wr => ∃ (k : Int) (d : RecD), i = .int .i64 k ∧ 0 ≤ k ∧ k ≤ x2 ∧ RS B g b4 b5 w wr 20 (x2 - k).toNat d) (fun i _ => (intOf i).toNat)
      case atStart => exact ⟨x2, d, rfl, hx20, Int.le_refl _, hR7.weak (Nat.le_refl _) (Nat.zero_le _)⟩
      case round =>
        clear hR7
        obtain ⟨k, d, rfl, hk0, hk1, hR⟩ := hrel
        have hcB := hR.b.cell; have hfB := hR.b.frozen; have hlB := hR.b.lt; have hn1B := hR.n1; have hn2B := hR.n2
        by_cases hlt : 0 < k
        · have hw1 : IntKind.i64.wrap (k - 1) = k - 1 := IntWalk.i64_in _ (by omega)
          go_wp2_with fail
          go_region_law (first | (go_loud (refine step_append_lies _ (by rfl) _ _ _ (by rfl) (b5 + 1) 9 j0 _ 1 16 Try.underlying25 hj0 hJ0 hJ1 hJ2 rfl (by omega) (.slice d.A2 d.ss.length d.c2) d.ss.length _ (by rfl) (RC.o2.alloc _) ⟨wC.heap.size, 0, none⟩ 1 1 [.string yss] (by rfl) (by rfl) (World.news_of_block (cs := #[.string yss]) (t := 9) (fr := (0, 0)) (heap_alloc_new wC _)) (by simp [Value.oneCell']) (by omega) (by simp only [maxLen]; omega) (by omega) (by simp; omega) (wC.heap.size + 1) (by simp) ?_; intro gg cap wf hown1 hgrow hat hlt1; have BY := Blk.grown (RC.b.alloc (.cells #[.string yss] 9)) hgrow (RC.ne b5 (by omega)).2; have hcY := BY.cell; have hfY := BY.frozen)) | (go_simp; go_at_call 54; refine (spec_l01Below g 8 _ (hR.cur.below (by (repeat (first | (with_reducible exact Below.refl _ _) | (with_reducible assumption) | ((with_reducible refine Below.setCell ?_ ?_ _); rotate_left; focus (first | omega | (simp; done) | (simp; omega))) | ((with_reducible refine Below.alloc ?_ ?_ _); rotate_left; focus (first | omega | (simp; done) | (simp; omega))) | (with_reducible refine Below.drew ?_) | (with_reducible refine below_drewN ?_ _) | (refine Below.trans ?_ (Below.mono (by with_reducible assumption) (by (first | omega | (simp; done) | (simp; omega))))))))) (by omega)).mono ?_; rintro e wA ⟨y, rfl, hy0, hy1, -, hdA⟩; have hy := hy1 (by omega); have hOg : Out (fun q => q = g) wr wA := (Out.trans (Out.of_below (by (repeat (first | (with_reducible exact Below.refl _ _) | (with_reducible assumption) | ((with_reducible refine Below.setCell ?_ ?_ _); rotate_left; focus (first | omega | (simp; done) | (simp; omega))) | ((with_reducible refine Below.alloc ?_ ?_ _); rotate_left; focus (first | omega | (simp; done) | (simp; omega))) | (with_reducible refine Below.drew ?_) | (with_reducible refine below_drewN ?_ _) | (refine Below.trans ?_ (Below.mono (by with_reducible assumption) (by (first | omega | (simp; done) | (simp; omega))))))))) hdA.2); have RA := hR.move hOg hdA.1 h4 h5; have hcA := RA.b.cell; have hfA := RA.b.frozen) | (go_simp; go_at_call 56; refine (spec_l01DrawBytes g (y) _ RA.cur (by omega)).mono ?_; rintro e wC ⟨AC, cC, ys, rfl, hyl, hoC, hcuC, hdC⟩; have hOc : Out (fun q => q = g) wA wC := hdC; have RC := RA.move hOc hcuC h4 h5; have hcvC := run_strOf cC (Reads.of_own hoC); have HSS : Hid ((strOf ys).size ≤ 301) := Lib.hid (by show ys.toArray.size ≤ 301; rw [List.size_toArray]; omega); generalize strOf ys = yss at *; clear hoC hyl; have hcC := RC.b.cell; have hfC := RC.b.frozen; have hlC := RC.b.lt; have hn1C := RC.n1; have hn2C := RC.n2; have hcC2 := (RC.b.alloc (.cells #[.string yss] 9)).cell))
          all_goals
            have R9 := RC.push2 (s := yss) h4 h5 h0 HSS.out hown1 hgrow (by rcases hat with h | h; exact Or.inl h; exact Or.inr (by rw [h]; simp))
            go_wp2_with fail
            go_roundw
            case rel => exact ⟨k - 1, _, rfl, by omega, by omega, R9.weak (Nat.le_refl _) (by omega)⟩
            case measure => simp [intOf]; omega
        · obtain rfl : k = 0 := by omega
          have hR2 := hR.weak (M1 := 20) (M2 := 12) (Nat.le_refl _) (by omega)
          clear hR hn1B hn2B
          go_wp2_with fail
          --CUT1
          refine (spec_l01Once g 20 _ hR2.cur (by omega)).mono ?_
          rintro e w8 ⟨bb, rfl, hd8⟩
          have hR8 := hR2.move hd8.2 hd8.1 h4 h5
          clear hR2 hd8 hcB hfB hlB
          go_upto_if 46 with fail
          go_cut [] (fun wx => ∃ d, RS B g b4 b5 w wx 50 13 d)
          case first =>
            cases bb
            · go_wp2_with fail
              go_meet
              exact ⟨d, hR8.weak (by omega) (by omega)⟩
            go_wp2_with fail
            refine (spec_l01Below g 4 _ hR8.cur (by omega)).mono ?_
            rintro e w9 ⟨v, rfl, hv0, hv1, -, hd9⟩
            have hv := hv1 (by omega)
            have hR := hR8.move hd9.2 hd9.1 h4 h5
            clear hR8 hd9 hv1
            have hcB := hR.b.cell; have hfB := hR.b.frozen; have hlB := hR.b.lt; have hn1B := hR.n1; have hn2B := hR.n2
            by_cases e0 : v = 0
            · subst e0
              go_wp2_with fail
              refine (spec_pickLit g w9 [-1, 100, 99] hR.cur (by simp) (by simp)).mono ?_
              rintro e wa ⟨z, rfl, -, hca, hOa, hsa⟩
              have hRa := hR.move hOa hca h4 h5
              clear hcB hfB hlB
              have hcB := hRa.b.cell; have hfB := hRa.b.frozen
              go_wp2_with fail
              go_meet
              exact ⟨_, (hRa.kind h4 h5 h0 z).weak (by omega) (by omega)⟩
            by_cases e1 : v = 1
            · subst e1
              go_wp2_with fail
              go_region_law (first | (go_loud (refine step_append_lies _ (by rfl) _ _ _ (by rfl) (b5 + 1) 3 i0 _ 1 8 Try.underlying24 hi0 hI0 hI1 hI2 rfl (by omega) (.slice d.A1 d.xs.length d.c1) d.xs.length _ (by rfl) (RA.o1.alloc _) ⟨wA.heap.size, 0, none⟩ 1 1 [.int .i64 y] (by rfl) (by rfl) (World.news_of_block (cs := #[.int .i64 y]) (t := 3) (fr := (0, 0)) (heap_alloc_new wA _)) (by simp [Value.oneCell']) (by omega) (by simp only [maxLen]; omega) (by omega) (by simp; omega) (wA.heap.size + 1) (by simp) ?_; intro gg cap wf hown1 hgrow hat hlt1; have BY := Blk.grown (RA.b.alloc (.cells #[.int .i64 y] 3)) hgrow (RA.ne b5 (by omega)).1; have hcY := BY.cell; have hfY := BY.frozen)) | (go_simp; go_at_call 58; refine (spec_pickLitD g w9 [1099511627777, -1099511627777] hR.cur (by simp) (by simp)).mono ?_; rintro e wA ⟨y, rfl, -, hcuA, hOg, hsA⟩; have RA := hR.move hOg hcuA h4 h5; have hcA := RA.b.cell; have hfA := RA.b.frozen; have hlA := RA.b.lt; have hn1A := RA.n1; have hn2A := RA.n2; have hcA2 := (RA.b.alloc (.cells #[.int .i64 y] 3)).cell))
              all_goals
                have R9 := RA.push1 (x := y) h4 h5 h0 hown1 hgrow (by rcases hat with h | h; exact Or.inl h; exact Or.inr (by rw [h]; simp))
                go_wp2_with fail
                go_meet
                exact ⟨_, R9.weak (by omega) (by omega)⟩
            by_cases e2 : v = 2
            · subst e2
              go_wp2_with fail
              go_region_law (first | (go_loud (refine step_append_lies _ (by rfl) _ _ _ (by rfl) (b5 + 1) 9 j0 _ 1 16 Try.underlying25 hj0 hJ0 hJ1 hJ2 rfl (by omega) (.slice d.A2 d.ss.length d.c2) d.ss.length _ (by rfl) (RC.o2.alloc _) ⟨wC.heap.size, 0, none⟩ 1 1 [.string yss] (by rfl) (by rfl) (World.news_of_block (cs := #[.string yss]) (t := 9) (fr := (0, 0)) (heap_alloc_new wC _)) (by simp [Value.oneCell']) (by omega) (by simp only [maxLen]; omega) (by omega) (by simp; omega) (wC.heap.size + 1) (by simp) ?_; intro gg cap wf hown1 hgrow hat hlt1; have BY := Blk.grown (RC.b.alloc (.cells #[.string yss] 9)) hgrow (RC.ne b5 (by omega)).2; have hcY := BY.cell; have hfY := BY.frozen)) | (go_simp; go_at_call 54; refine (spec_l01Below g 3 _ (hR.cur.below (by (repeat (first | (with_reducible exact Below.refl _ _) | (with_reducible assumption) | ((with_reducible refine Below.setCell ?_ ?_ _); rotate_left; focus (first | omega | (simp; done) | (simp; omega))) | ((with_reducible refine Below.alloc ?_ ?_ _); rotate_left; focus (first | omega | (simp; done) | (simp; omega))) | (with_reducible refine Below.drew ?_) | (with_reducible refine below_drewN ?_ _) | (refine Below.trans ?_ (Below.mono (by with_reducible assumption) (by (first | omega | (simp; done) | (simp; omega))))))))) (by omega)).mono ?_; rintro e wA ⟨y, rfl, hy0, hy1, -, hdA⟩; have hy := hy1 (by omega); have hOg : Out (fun q => q = g) w9 wA := (Out.trans (Out.of_below (by (repeat (first | (with_reducible exact Below.refl _ _) | (with_reducible assumption) | ((with_reducible refine Below.setCell ?_ ?_ _); rotate_left; focus (first | omega | (simp; done) | (simp; omega))) | ((with_reducible refine Below.alloc ?_ ?_ _); rotate_left; focus (first | omega | (simp; done) | (simp; omega))) | (with_reducible refine Below.drew ?_) | (with_reducible refine below_drewN ?_ _) | (refine Below.trans ?_ (Below.mono (by with_reducible assumption) (by (first | omega | (simp; done) | (simp; omega))))))))) hdA.2); have RA := hR.move hOg hdA.1 h4 h5; have hcA := RA.b.cell; have hfA := RA.b.frozen; have hw3 : IntKind.i64.wrap (299 + y) = 299 + y := IntWalk.i64_in _ (by omega)) | (go_simp; go_at_call 56; refine (spec_l01DrawBytes g (299 + y) _ RA.cur (by omega)).mono ?_; rintro e wC ⟨AC, cC, ys, rfl, hyl, hoC, hcuC, hdC⟩; have hOc : Out (fun q => q = g) wA wC := hdC; have RC := RA.move hOc hcuC h4 h5; have hcvC := run_strOf cC (Reads.of_own hoC); have HSS : Hid ((strOf ys).size ≤ 301) := Lib.hid (by show ys.toArray.size ≤ 301; rw [List.size_toArray]; omega); generalize strOf ys = yss at *; clear hoC hyl; have hcC := RC.b.cell; have hfC := RC.b.frozen; have hlC := RC.b.lt; have hn1C := RC.n1; have hn2C := RC.n2; have hcC2 := (RC.b.alloc (.cells #[.string yss] 9)).cell))
              all_goals
                have R9 := RC.push2 (s := yss) h4 h5 h0 HSS.out hown1 hgrow (by rcases hat with h | h; exact Or.inl h; exact Or.inr (by rw [h]; simp))
                go_wp2_with fail
                go_meet
                exact ⟨_, R9.weak (by omega) (by omega)⟩
            obtain rfl : v = 3 := by omega
            have hRb := hR.weak (M1 := 42) (M2 := 12) (by omega) (by omega)
            clear hR hcB hfB hlB hn1B hn2B
            go_wp2_with fail
            go_loopw [] (fun wr => ∃ (d : RecD), RS B g b4 b5 w wr 42 12 d) (fun wr => 43 - lenAt wr b5)
            case atStart => exact ⟨_, hRb⟩
            case round =>
              clear hRb
              obtain ⟨d, hR⟩ := hrel
              have HLen := Lib.hid hR.lenAt
              have hcB := hR.b.cell; have hfB := hR.b.frozen; have hlB := hR.b.lt; have hn1B := hR.n1; have hn2B := hR.n2
              go_wp2_with fail
              go_cut [86] (fun s86 wx => ∃ y : Int, 0 ≤ y ∧ y < 2 ∧ s86 = .bool (decide ((d.xs.length : Int) < 40 + y)) ∧ RS B g b4 b5 w wx 42 12 d)
              case first =>
                go_region_law ((go_simp; go_at_call 54; refine (spec_l01Below g 2 _ (hR.cur.below (by (repeat (first | (with_reducible exact Below.refl _ _) | (with_reducible assumption) | ((with_reducible refine Below.setCell ?_ ?_ _); rotate_left; focus (first | omega | (simp; done) | (simp; omega))) | ((with_reducible refine Below.alloc ?_ ?_ _); rotate_left; focus (first | omega | (simp; done) | (simp; omega))) | (with_reducible refine Below.drew ?_) | (with_reducible refine below_drewN ?_ _) | (refine Below.trans ?_ (Below.mono (by with_reducible assumption) (by (first | omega | (simp; done) | (simp; omega))))))))) (by omega)).mono ?_; rintro e wA ⟨y, rfl, hy0, hy1, -, hdA⟩; have hy := hy1 (by omega); have hOg : Out (fun q => q = g) wr wA := (Out.trans (Out.of_below (by (repeat (first | (with_reducible exact Below.refl _ _) | (with_reducible assumption) | ((with_reducible refine Below.setCell ?_ ?_ _); rotate_left; focus (first | omega | (simp; done) | (simp; omega))) | ((with_reducible refine Below.alloc ?_ ?_ _); rotate_left; focus (first | omega | (simp; done) | (simp; omega))) | (with_reducible refine Below.drew ?_) | (with_reducible refine below_drewN ?_ _) | (refine Below.trans ?_ (Below.mono (by with_reducible assumption) (by (first | omega | (simp; done) | (simp; omega))))))))) hdA.2); have RA := hR.move hOg hdA.1 h4 h5; have hcA := RA.b.cell; have hfA := RA.b.frozen; have hw4 : IntKind.i64.wrap (40 + y) = 40 + y := IntWalk.i64_in _ (by omega)))
                all_goals
                  go_wp2_with fail
                  go_meet
                  exact ⟨y, hy0, hy, rfl, RA⟩
              case rest =>
                obtain ⟨y, hy0, hy, rfl, hR2⟩ := hcut
                obtain ⟨wq, hwq⟩ : ∃ w_, w_ = wc := ⟨_, rfl⟩
                subst hwq
                clear hR hcB hfB hlB
                have hcB := hR2.b.cell; have hfB := hR2.b.frozen; have hlB := hR2.b.lt; have o1B := hR2.o1; have neB := hR2.ne b5 (by omega)
                by_cases hlt : (d.xs.length : Int) < 40 + y
                · go_wp2_with (first | (at_builtin; go_loud (refine wpList_append_own_at _ rfl _ _ 24 rfl (b5 + 1) 3 i0 (.int .i64 0) 1 8 Try.underlying24 hi0 hI0 hI1 hI2 rfl (by decide) _ _ _ rfl (o1B.alloc _) ⟨wq.heap.size, 0, none⟩ 1 1 [.int .i64 7] rfl rfl ?c1 ?c2 ?c3 ?c4 ?c5 ?_; (case c1 => exact cell_one_new _ _ _); (case c2 => simp [Value.oneCell']); (case c3 => (simp only [maxLen]; omega)); (case c4 => omega); (case c5 => (simp; omega)); intro v' wf hown1 hgrow hnil hat; obtain ⟨gg, cap, rfl, hg1, hg2⟩ := hown1.form (by omega); have BY := Blk.grown (hR2.b.alloc (.cells #[.int .i64 7] 3)) hgrow neB.1; have hcY := BY.cell; have hfY := BY.frozen)))
                  go_roundw
                  case rel => exact ⟨_, (hR2.tight.push1 (x := 7) h4 h5 h0 hown1 hgrow (by rcases hat with h | h; exact Or.inl h.symm; exact Or.inr (by simpa [Value.ownBlock] using h))).weak (by omega) (by omega)⟩
                  case measure =>
                    have hq := HLen.out
                    have hp := (hR2.push1 (x := 7) (gg := gg) (cap := cap) h4 h5 h0 hown1 hgrow (by rcases hat with h | h; exact Or.inl h.symm; exact Or.inr (by simpa [Value.ownBlock] using h))).lenAt
                    unfold RecD.push1 at hp
                    dsimp only at hp
                    rw [List.length_append] at hp
                    simp only [List.length_cons, List.length_nil] at hp
                    omega
                · go_wp2_with fail
                  go_meet
                  exact ⟨_, hR2.weak (by omega) (by omega)⟩
          case rest =>
            clear hR8
            obtain ⟨d, hR⟩ := hcut
            obtain ⟨w8, hw8⟩ : ∃ w_, w_ = wc := ⟨_, rfl⟩
            subst hw8
            go_wp2_with fail
            refine (spec_l01Once g 60 _ hR.cur (by omega)).mono ?_
            rintro e w9 ⟨bc, rfl, hd9⟩
            have hR9 := hR.move hd9.2 hd9.1 h4 h5
            clear hR hd9
            go_upto_if 93 with fail
            go_cut [] (fun wx => ∃ d, RS B g b4 b5 w wx 50 14 d)
            case first =>
              cases bc
              · go_wp2_with fail
                go_meet
                exact ⟨d, hR9.weak (Nat.le_refl _) (by omega)⟩
              have hRn := hR9.none2 h4 h5 h0
              have hcB := hR9.b.cell; have hfB := hR9.b.frozen
              go_wp2_with fail
              go_loopw [8] (fun i wr => ∃ (k : Nat) (d : RecD), i = .int .i64 k ∧ k ≤ 14 ∧ RS B g b4 b5 w wr 50 k d) (fun i _ => 14 - (intOf i).toNat)
              case atStart => exact ⟨0, _, rfl, by omega, hRn⟩
              case round =>
                clear hRn hR9 hcB hfB
                obtain ⟨k, d, rfl, hk, hR⟩ := hrel
                have hcB := hR.b.cell; have hfB := hR.b.frozen; have hlB := hR.b.lt; have hn1B := hR.n1; have hn2B := hR.n2
                by_cases hlt : k < 14
                · go_wp2_with fail
                  go_region_law (first | (go_loud (refine step_append_lies _ (by rfl) _ _ _ (by rfl) (b5 + 1) 9 j0 _ 1 16 Try.underlying25 hj0 hJ0 hJ1 hJ2 rfl (by omega) (.slice d.A2 d.ss.length d.c2) d.ss.length _ (by rfl) (RC.o2.alloc _) ⟨wC.heap.size, 0, none⟩ 1 1 [.string yss] (by rfl) (by rfl) (World.news_of_block (cs := #[.string yss]) (t := 9) (fr := (0, 0)) (heap_alloc_new wC _)) (by simp [Value.oneCell']) (by omega) (by simp only [maxLen]; omega) (by omega) (by simp; omega) (wC.heap.size + 1) (by simp) ?_; intro gg cap wf hown1 hgrow hat hlt1; have BY := Blk.grown (RC.b.alloc (.cells #[.string yss] 9)) hgrow (RC.ne b5 (by omega)).2; have hcY := BY.cell; have hfY := BY.frozen)) | (go_simp; go_at_call 56; refine (spec_l01DrawBytes g (285) _ (hR.cur.below (by (repeat (first | (with_reducible exact Below.refl _ _) | (with_reducible assumption) | ((with_reducible refine Below.setCell ?_ ?_ _); rotate_left; focus (first | omega | (simp; done) | (simp; omega))) | ((with_reducible refine Below.alloc ?_ ?_ _); rotate_left; focus (first | omega | (simp; done) | (simp; omega))) | (with_reducible refine Below.drew ?_) | (with_reducible refine below_drewN ?_ _) | (refine Below.trans ?_ (Below.mono (by with_reducible assumption) (by (first | omega | (simp; done) | (simp; omega))))))))) (by omega)).mono ?_; rintro e wC ⟨AC, cC, ys, rfl, hyl, hoC, hcuC, hdC⟩; have hOc : Out (fun q => q = g) wr wC := (Out.trans (Out.of_below (by (repeat (first | (with_reducible exact Below.refl _ _) | (with_reducible assumption) | ((with_reducible refine Below.setCell ?_ ?_ _); rotate_left; focus (first | omega | (simp; done) | (simp; omega))) | ((with_reducible refine Below.alloc ?_ ?_ _); rotate_left; focus (first | omega | (simp; done) | (simp; omega))) | (with_reducible refine Below.drew ?_) | (with_reducible refine below_drewN ?_ _) | (refine Below.trans ?_ (Below.mono (by with_reducible assumption) (by (first | omega | (simp; done) | (simp; omega))))))))) hdC); have RC := hR.move hOc hcuC h4 h5; have hcvC := run_strOf cC (Reads.of_own hoC); have HSS : Hid ((strOf ys).size ≤ 301) := Lib.hid (by show ys.toArray.size ≤ 301; rw [List.size_toArray]; omega); generalize strOf ys = yss at *; clear hoC hyl; have hcC := RC.b.cell; have hfC := RC.b.frozen; have hlC := RC.b.lt; have hn1C := RC.n1; have hn2C := RC.n2; have hcC2 := (RC.b.alloc (.cells #[.string yss] 9)).cell))
                  all_goals
                    have R9 := RC.push2 (s := yss) h4 h5 h0 HSS.out hown1 hgrow (by rcases hat with h | h; exact Or.inl h; exact Or.inr (by rw [h]; simp))
                    go_wp2_with fail
                    go_roundw
                    case rel => exact ⟨k + 1, _, by go_num, by omega, R9⟩
                    case measure => simp [intOf]; omega
                · go_wp2_with fail
                  go_meet
                  exact ⟨_, hR.weak (Nat.le_refl _) hk⟩
            case rest =>
              clear hR9
              obtain ⟨d, hR⟩ := hcut
              obtain ⟨wz, hwz⟩ : ∃ w_, w_ = wc := ⟨_, rfl⟩
              subst hwz
              have hc5 := hR.b.cell; have hc4 := hR.z.cell; have hf4 := hR.z.frozen; have hl4 := hR.z.lt
              go_wp2_with fail
              have hO3 : Out (fun q => q = b4) wz (World.setCell (World.setCell (World.setCell wz ⟨b4, 0, none⟩ (.int .i64 d.k)) ⟨b4, 1, none⟩ (.slice d.A1 d.xs.length d.c1)) ⟨b4, 2, none⟩ (.slice d.A2 d.ss.length d.c2)) := (Out.trans (Out.trans (out_set _ _ _ _) (out_set _ _ _ _)) (out_set _ _ _ _))
              have Y4 : Blk (World.setCell (World.setCell (World.setCell wz ⟨b4, 0, none⟩ (.int .i64 d.k)) ⟨b4, 1, none⟩ (.slice d.A1 d.xs.length d.c1)) ⟨b4, 2, none⟩ (.slice d.A2 d.ss.length d.c2)) b4 27 #[.int .i64 d.k, .slice d.A1 d.xs.length d.c1, .slice d.A2 d.ss.length d.c2] := Blk.set_ (Blk.set_ (Blk.set_ hR.z 0 _) 1 _) 2 _
              have hI : RIn wz (fun q => q ≤ b4) d := ⟨RdIn.own hR.o1 (fun q hq => Or.inl (by omega)), RdIn.own hR.o2 (fun q hq => Or.inl (by omega)), own_cap hR.o1, own_cap hR.o2, own_max hR.o1, own_max hR.o2, Nat.le_trans hR.n1 (by omega), Nat.le_trans hR.n2 (by omega), hR.sh⟩
              have hI2 : RIn (World.setCell (World.setCell (World.setCell wz ⟨b4, 0, none⟩ (.int .i64 d.k)) ⟨b4, 1, none⟩ (.slice d.A1 d.xs.length d.c1)) ⟨b4, 2, none⟩ (.slice d.A2 d.ss.length d.c2)) (Low w.heap.size) d := (hI.out hO3 (fun q hq => by omega)).weak (fun q hq => Or.inl (by have : q < w.heap.size := hq; omega))
              have hcz : Cur B (World.setCell (World.setCell (World.setCell wz ⟨b4, 0, none⟩ (.int .i64 d.k)) ⟨b4, 1, none⟩ (.slice d.A1 d.xs.length d.c1)) ⟨b4, 2, none⟩ (.slice d.A2 d.ss.length d.c2)) g := hR.cur.out hO3 (fun q hq => by omega)
              have hOz : Out (fun q => q = g) w (World.setCell (World.setCell (World.setCell wz ⟨b4, 0, none⟩ (.int .i64 d.k)) ⟨b4, 1, none⟩ (.slice d.A1 d.xs.length d.c1)) ⟨b4, 2, none⟩ (.slice d.A2 d.ss.length d.c2)) := hR.out.join hO3 (fun q hq => by right; omega)
              clear hc5 hc4 hf4 hl4 hI
              generalize (World.setCell (World.setCell (World.setCell wz ⟨b4, 0, none⟩ (.int .i64 d.k)) ⟨b4, 1, none⟩ (.slice d.A1 d.xs.length d.c1)) ⟨b4, 2, none⟩ (.slice d.A2 d.ss.length d.c2)) = wy at *
              have hc4 := Y4.cell; have hf4 := Y4.frozen
              refine bodyPost_ret (v := .agg #[.int .i64 d.k, .slice d.A1 d.xs.length d.c1, .slice d.A2 d.ss.length d.c2]) (by simp [results, Try.results37, go_sem, hc4, hf4]) rfl ⟨d, rfl, hI2, hcz, hOz⟩
end Go.Proofs.Ytndgaakfndokgaa
namespace Go.Proofs.Ytndgaakfndokgaa
open Go.RowKit
set_option maxHeartbeats 1600000 in
theorem spec_DrawRecordOk (A0 : Option Addr) (c0 : Nat) (code : List UInt8) (w : World) (hr : Reads w w.heap.size A0 (code.map byteV)) (hm : code.length ≤ 1048576) :
    Calls Try.prog 16 #[.slice A0 code.length c0] w fun e w' => ∃ d : RecD, e = .returned (.agg #[.int .i64 d.k, .slice d.A1 d.xs.length d.c1, .slice d.A2 d.ss.length d.c2]) ∧ RIn w' (Low w.heap.size) d ∧ Below w.heap.size w w' := by
  have HN := Lib.hid (fun (w' : World) (hb : Below w.heap.size w w') => spec_l01New (B := w.heap.size) A0 c0 code w' (hr.below hb (Nat.le_refl _)) hb.size hm)
  generalize code.length = n at *
  clear hr
  go_enter Try.func16, Try.ntmps16
  go_wp2_with fail
  have hb0 : Below w.heap.size w (w.alloc (.cells #[.int .i64 0, .slice none 0 0, .slice none 0 0] 27)) := by (repeat (first | (with_reducible exact Below.refl _ _) | (with_reducible assumption) | ((with_reducible refine Below.setCell ?_ ?_ _); rotate_left; focus (first | omega | (simp; done) | (simp; omega))) | ((with_reducible refine Below.alloc ?_ ?_ _); rotate_left; focus (first | omega | (simp; done) | (simp; omega))) | (with_reducible refine Below.drew ?_) | (with_reducible refine below_drewN ?_ _) | (refine Below.trans ?_ (Below.mono (by with_reducible assumption) (by (first | omega | (simp; done) | (simp; omega)))))))
  have B2 : Blk (w.alloc (.cells #[.int .i64 0, .slice none 0 0, .slice none 0 0] 27)) w.heap.size 27 #[.int .i64 0, .slice none 0 0, .slice none 0 0] := Blk.new' rfl
  have hs0 : w.heap.size + 1 = (w.alloc (.cells #[.int .i64 0, .slice none 0 0, .slice none 0 0] 27)).heap.size := by simp
  generalize (w.alloc (.cells #[.int .i64 0, .slice none 0 0, .slice none 0 0] 27)) = wa at *
  refine (HN.out _ hb0).mono ?_
  rintro e w1 ⟨rfl, hc1, hb1⟩
  obtain ⟨g, hg⟩ : ∃ g, g = wa.heap.size := ⟨_, rfl⟩
  rw [← hg] at hc1 ⊢
  have hgl := hc1.lt
  obtain ⟨b2, hb2e⟩ : ∃ b, b = w.heap.size := ⟨_, rfl⟩
  rw [← hb2e] at B2 ⊢
  have h2g : b2 < g := by omega
  have hwb : w.heap.size ≤ b2 := by omega
  have B21 := B2.keep hb1
  have hbw1 := hb0.trans (hb1.mono (by omega))
  clear hg hb2e B2 hb1 hb0 hs0 HN
  go_wp2_with fail
  refine (spec_l01Size A0 n c0 12 _ hm (by omega) (by omega)).mono ?_
  rintro e w' ⟨m, rfl, hm0, hm1, rfl⟩
  obtain ⟨N, rfl⟩ : ∃ N : Nat, m = N := ⟨m.toNat, by omega⟩
  go_wp2_with fail
  refine (spec_l05DrawRecord g N _ hc1 (by omega)).mono ?_
  rintro e wz ⟨d, rfl, hI, hcz, hOz⟩
  have B2z := B21.out hOz (by omega)
  have hbwz := hbw1.trans (hOz.below (B := w.heap.size) (by have := hbw1.size; omega) (fun q hq => by omega))
  have hc2 := B2z.cell; have hf2 := B2z.frozen; have hl2 := B2z.lt
  have HI := Lib.hid hI
  clear hI
  go_wp2_with fail
  have hO3 : Out (fun q => q = b2) wz (World.setCell (World.setCell (World.setCell wz ⟨b2, 0, none⟩ (.int .i64 d.k)) ⟨b2, 1, none⟩ (.slice d.A1 d.xs.length d.c1)) ⟨b2, 2, none⟩ (.slice d.A2 d.ss.length d.c2)) := (Out.trans (Out.trans (out_set _ _ _ _) (out_set _ _ _ _)) (out_set _ _ _ _))
  have Y2 : Blk (World.setCell (World.setCell (World.setCell wz ⟨b2, 0, none⟩ (.int .i64 d.k)) ⟨b2, 1, none⟩ (.slice d.A1 d.xs.length d.c1)) ⟨b2, 2, none⟩ (.slice d.A2 d.ss.length d.c2)) b2 27 #[.int .i64 d.k, .slice d.A1 d.xs.length d.c1, .slice d.A2 d.ss.length d.c2] := Blk.set_ (Blk.set_ (Blk.set_ B2z 0 _) 1 _) 2 _
  have hlow : w1.heap.size ≤ wz.heap.size := hOz.size
  have HI2 : Hid (RIn (World.setCell (World.setCell (World.setCell wz ⟨b2, 0, none⟩ (.int .i64 d.k)) ⟨b2, 1, none⟩ (.slice d.A1 d.xs.length d.c1)) ⟨b2, 2, none⟩ (.slice d.A2 d.ss.length d.c2)) (Low w.heap.size) d) := Lib.hid ((HI.out.out hO3 (fun q hq => by show q < w1.heap.size; omega)).weak (fun q hq => Or.inl (by have h : q < w.heap.size := hq; show q < w1.heap.size; omega)))
  have hbY : Below w.heap.size w (World.setCell (World.setCell (World.setCell wz ⟨b2, 0, none⟩ (.int .i64 d.k)) ⟨b2, 1, none⟩ (.slice d.A1 d.xs.length d.c1)) ⟨b2, 2, none⟩ (.slice d.A2 d.ss.length d.c2)) := hbwz.trans (hO3.below (B := w.heap.size) (by have := hbwz.size; omega) (fun q hq => by omega))
  clear hc2 hf2 hl2
  generalize (World.setCell (World.setCell (World.setCell wz ⟨b2, 0, none⟩ (.int .i64 d.k)) ⟨b2, 1, none⟩ (.slice d.A1 d.xs.length d.c1)) ⟨b2, 2, none⟩ (.slice d.A2 d.ss.length d.c2)) = wy at *
  have hc2 := Y2.cell; have hf2 := Y2.frozen
  refine bodyPost_ret (v := .agg #[.int .i64 d.k, .slice d.A1 d.xs.length d.c1, .slice d.A2 d.ss.length d.c2]) (by simp [results, Try.results16, go_sem, hc2, hf2]) rfl ⟨d, rfl, HI2.out, hbY⟩
theorem spec_DrawEncodeRecord (A0 : Option Addr) (c0 : Nat) (code : List UInt8) (w : World) (hr : Reads w w.heap.size A0 (code.map byteV)) (hm : code.length ≤ 1048576) :
    Calls Try.prog 6 #[.slice A0 code.length c0] w fun e w' => ∃ d : RecD, e = .returned (.agg #[.int .i64 d.k, .slice d.A1 d.xs.length d.c1, .slice d.A2 d.ss.length d.c2]) ∧ RIn w' (Low w.heap.size) d ∧ Below w.heap.size w w' := by
  have HN := Lib.hid (fun (w' : World) (hb : Below w.heap.size w w') => spec_DrawRecordOk A0 c0 code w' (hr.keep hb hb.size) hm)
  generalize code.length = n at *
  clear hr
  go_enter Try.func6, Try.ntmps6
  go_wp2_with fail
  have hb0 : Below w.heap.size w (w.alloc (.cells #[.int .i64 0, .slice none 0 0, .slice none 0 0] 27)) := by (repeat (first | (with_reducible exact Below.refl _ _) | (with_reducible assumption) | ((with_reducible refine Below.setCell ?_ ?_ _); rotate_left; focus (first | omega | (simp; done) | (simp; omega))) | ((with_reducible refine Below.alloc ?_ ?_ _); rotate_left; focus (first | omega | (simp; done) | (simp; omega))) | (with_reducible refine Below.drew ?_) | (with_reducible refine below_drewN ?_ _) | (refine Below.trans ?_ (Below.mono (by with_reducible assumption) (by (first | omega | (simp; done) | (simp; omega)))))))
  have B2 : Blk (w.alloc (.cells #[.int .i64 0, .slice none 0 0, .slice none 0 0] 27)) w.heap.size 27 #[.int .i64 0, .slice none 0 0, .slice none 0 0] := Blk.new' rfl
  have hs0 : w.heap.size + 1 = (w.alloc (.cells #[.int .i64 0, .slice none 0 0, .slice none 0 0] 27)).heap.size := by simp
  generalize (w.alloc (.cells #[.int .i64 0, .slice none 0 0, .slice none 0 0] 27)) = wa at *
  refine (HN.out _ hb0).mono ?_
  rintro e wz ⟨d, rfl, hI, hb1⟩
  obtain ⟨b2, hb2e⟩ : ∃ b, b = w.heap.size := ⟨_, rfl⟩
  rw [← hb2e] at B2 ⊢
  have h2a : b2 < wa.heap.size := by omega
  have hwb : w.heap.size ≤ b2 := by omega
  have hwa : w.heap.size ≤ wa.heap.size := by omega
  have B2z := B2.keep hb1
  have hbwz := hb0.trans (hb1.mono (by omega))
  clear hb2e B2 hb1 hb0 hs0 HN
  have hc2 := B2z.cell; have hf2 := B2z.frozen; have hl2 := B2z.lt
  have HI := Lib.hid hI
  clear hI
  go_wp2_with fail
  have hO3 : Out (fun q => q = b2) wz (World.setCell (World.setCell (World.setCell wz ⟨b2, 0, none⟩ (.int .i64 d.k)) ⟨b2, 1, none⟩ (.slice d.A1 d.xs.length d.c1)) ⟨b2, 2, none⟩ (.slice d.A2 d.ss.length d.c2)) := (Out.trans (Out.trans (out_set _ _ _ _) (out_set _ _ _ _)) (out_set _ _ _ _))
  have Y2 : Blk (World.setCell (World.setCell (World.setCell wz ⟨b2, 0, none⟩ (.int .i64 d.k)) ⟨b2, 1, none⟩ (.slice d.A1 d.xs.length d.c1)) ⟨b2, 2, none⟩ (.slice d.A2 d.ss.length d.c2)) b2 27 #[.int .i64 d.k, .slice d.A1 d.xs.length d.c1, .slice d.A2 d.ss.length d.c2] := Blk.set_ (Blk.set_ (Blk.set_ B2z 0 _) 1 _) 2 _
  have HI2 : Hid (RIn (World.setCell (World.setCell (World.setCell wz ⟨b2, 0, none⟩ (.int .i64 d.k)) ⟨b2, 1, none⟩ (.slice d.A1 d.xs.length d.c1)) ⟨b2, 2, none⟩ (.slice d.A2 d.ss.length d.c2)) (Low w.heap.size) d) := Lib.hid ((HI.out.out hO3 (fun q hq => by show q < wa.heap.size; omega)).weak (fun q hq => Or.inl (by have h : q < w.heap.size := hq; show q < wa.heap.size; omega)))
  have hbY : Below w.heap.size w (World.setCell (World.setCell (World.setCell wz ⟨b2, 0, none⟩ (.int .i64 d.k)) ⟨b2, 1, none⟩ (.slice d.A1 d.xs.length d.c1)) ⟨b2, 2, none⟩ (.slice d.A2 d.ss.length d.c2)) := hbwz.trans (hO3.below (B := w.heap.size) (by have := hbwz.size; omega) (fun q hq => by omega))
  clear hc2 hf2 hl2
  generalize (World.setCell (World.setCell (World.setCell wz ⟨b2, 0, none⟩ (.int .i64 d.k)) ⟨b2, 1, none⟩ (.slice d.A1 d.xs.length d.c1)) ⟨b2, 2, none⟩ (.slice d.A2 d.ss.length d.c2)) = wy at *
  have hc2 := Y2.cell; have hf2 := Y2.frozen
  refine bodyPost_ret (v := .agg #[.int .i64 d.k, .slice d.A1 d.xs.length d.c1, .slice d.A2 d.ss.length d.c2]) (by simp [results, Try.results6, go_sem, hc2, hf2]) rfl ⟨d, rfl, HI2.out, hbY⟩
end Go.Proofs.Ytndgaakfndokgaa

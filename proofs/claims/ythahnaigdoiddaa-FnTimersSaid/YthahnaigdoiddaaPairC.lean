/- A clock and a list of integers, both new. -/
import Derived.Test.YthahnaigdoiddaaPureAdv
import Derived.Test.YthahnaigdoiddaaClock3
import Derived.Test.YthahnaigdoiddaaIntS2
set_option linter.unusedSimpArgs false
set_option linter.unusedVariables false
set_option maxRecDepth 20000
namespace Go.Proofs.Ythahnaigdoiddaa
open Go.RowKit
def PairC (w : World) (lo : Nat) (cs : List Value) (c : Clock) (v : Value) (ys : List Int) : Prop :=
  ∃ Sa Sb, ClockR.Own w Sa cs c ∧ SlOwn intR 3 w Sb v ys ∧ (∀ g, Sa g → InR lo w.heap.size g) ∧ (∀ g, Sb g → InR lo w.heap.size g) ∧ ∀ g, Sa g → ¬ Sb g
theorem rows_dropS {w : World} {S : Nat → Prop} {e : TypeId} {m g off : Nat} {css : List (List Value)} (h : Rows w S e m (some ⟨g, off, none⟩) css) (k : Nat) : Rows w S e m (some ⟨g, off + k * m, none⟩) (css.drop k) := by
  intro h0
  rw [List.length_drop] at h0
  obtain ⟨g', off', cur, a, b, d, f⟩ := h (by omega)
  simp only [Option.some.injEq, Addr.mk.injEq, and_true] at a
  obtain ⟨rfl, rfl⟩ := a
  refine ⟨g, _, cur, rfl, b, d, fun j cs i u hj hu => ?_⟩
  rw [List.getElem?_drop] at hj
  have := f (k + j) cs i u hj hu
  rw [Nat.add_mul] at this
  rw [Nat.add_assoc, ← Nat.add_assoc (k * m)]
  exact this
theorem own_rows_timer {w : World} {lo n c : Nat} {A : Option Addr} {ts : List Timer} (h : w.ownsRow lo 52 2 (.slice A n c) n (ts.flatMap Timer.cells)) (hn : ts.length = n) : Rows w (fun g => (Value.slice A n c).ownBlock = some g) 52 2 A (ts.map Timer.cells) :=
  Rows.of_own (by rw [← List.flatMap_def]; exact h) (fun cs hcs => by obtain ⟨x, _, rfl⟩ := List.mem_map.1 hcs; exact Timer.len x) (by simpa using hn) (by omega)
theorem own_max' {w : World} {base n c size : Nat} {e : TypeId} {A : Option Addr} {xs : List Value} (h : w.ownsRow base e size (.slice A n c) n xs) : c ≤ 9223372036854775807 := by
  rcases h.2 with ⟨hv, hn⟩ | ⟨g, cap, cur, hv, _, _, _, hcm, _⟩
  · simp only [Value.slice.injEq] at hv; omega
  · simp only [Value.slice.injEq] at hv; simp only [maxLen] at hcm; omega
/-- The tail of an owned row of timers. -/
theorem timers_tail {w : World} {lo n c k m d : Nat} {A A' : Option Addr} {ts : List Timer} (h : w.ownsRow lo 52 2 (.slice A n c) n (ts.flatMap Timer.cells)) (hn : ts.length = n) (hk : k + m = n) (hd : k + d = c)
    (hA : 0 < m → ∃ g, A = some ⟨g, 0, none⟩ ∧ A' = some ⟨g, k * 2, none⟩) : SlOwn TimerR 52 w (fun g => (Value.slice A n c).ownBlock = some g) (.slice A' m d) (ts.drop k) := by
  have hl : (ts.drop k).length = m := by rw [List.length_drop]; omega
  have hc := own_cap h
  have hc2 := own_max' h
  have hr := own_rows_timer h hn
  have key : Rows w (fun g => (Value.slice A n c).ownBlock = some g) 52 2 A' ((ts.drop k).map Timer.cells) := by
    intro h0
    rw [List.length_map, hl] at h0
    obtain ⟨g, rfl, rfl⟩ := hA h0
    have h2 := rows_dropS hr k
    rw [Nat.zero_add, ← List.map_drop] at h2
    exact h2 (by rw [List.length_map, hl]; exact h0)
  have := SlOwn.of_rows (hf := Timer.len) (ok := fun _ => True) (cn := 2) (mrk := fun k _ => ⟨(k : Int), ((k + 1 : Nat) : Int)⟩) (sz := fun _ => 0) (c := d) key (by rw [hl]; omega) (by omega) (fun _ _ => trivial)
  rw [hl] at this
  exact this
theorem PairC.of {w : World} {lo n d m k : Nat} {A B : Option Addr} {now : Int} {ts : List Timer} {ys : List Int} (h1 : w.ownsRow lo 52 2 (.slice A n d) n (ts.flatMap Timer.cells)) (hn : ts.length = n) (h2 : w.ownsRow lo 3 1 (.slice B m k) m (ys.map intV)) (hm : ys.length = m)
    (ha : ∀ g, (Value.slice A n d).ownBlock = some g → (Value.slice B m k).ownBlock ≠ some g) : PairC w lo [.int .i64 now, .slice A n d] ⟨now, ts⟩ (.slice B m k) ys := by
  subst hn hm
  exact ⟨_, _, of_own_Clock (x := ⟨now, ts⟩) (of_own_TimerS h1) (fun _ h => h), of_own_IntS h2, own_inR h1, own_inR h2, fun g hg hg' => ha g hg hg'⟩
theorem PairC.tail {w : World} {lo n c k m d mi di : Nat} {A A' B : Option Addr} {now : Int} {ts : List Timer} {ys : List Int} (h : w.ownsRow lo 52 2 (.slice A n c) n (ts.flatMap Timer.cells)) (hn : ts.length = n) (hk : k + m = n) (hd : k + d = c)
    (hA : 0 < m → ∃ g, A = some ⟨g, 0, none⟩ ∧ A' = some ⟨g, k * 2, none⟩) (h2 : w.ownsRow lo 3 1 (.slice B mi di) mi (ys.map intV)) (hm : ys.length = mi)
    (ha : ∀ g, (Value.slice A n c).ownBlock = some g → (Value.slice B mi di).ownBlock ≠ some g) : PairC w lo [.int .i64 now, .slice A' m d] ⟨now, ts.drop k⟩ (.slice B mi di) ys := by
  subst hm
  have h1 := timers_tail h hn hk hd hA
  exact ⟨_, _, of_own_Clock (x := ⟨now, ts.drop k⟩) h1 (fun _ h => h), of_own_IntS h2, own_inR h, own_inR h2, fun g hg hg' => ha g hg hg'⟩
/-- s[1:] of a slice of timers. -/
theorem run_tail1 {A : Option Addr} (n c : Nat) (hc : n + 1 ≤ c + 1) : ∃ A', (0 < n → A' = A.map (·.add (1 * 2))) ∧ ∀ W, (Instr.slice 24 (.slice A (n + 1) (c + 1)) (some (.int .i64 1)) none none).run Try.prog W = .ok (.slice A' n c) W := by
  have ht : Try.prog.underlying 24 = some (.slice (Try.prog.elem 24)) := by kernel_rfl
  have hz : ∀ W, (sizeOf (Try.prog.elem 24)).run Try.prog W = .ok 2 W := fun W => by rw [show Try.prog.elem 24 = 52 by kernel_rfl]; simp [go_sem]
  refine ⟨if c + 1 = 1 then A else A.map (·.add (1 * 2)), fun h => by rw [if_neg (by omega)], fun W => ?_⟩
  rw [run_slice_l W 24 A (n + 1) (c + 1) ht .i64 1 (by omega) (by omega), hz]
  simp [Result.andThen, sliced]
end Go.Proofs.Ythahnaigdoiddaa

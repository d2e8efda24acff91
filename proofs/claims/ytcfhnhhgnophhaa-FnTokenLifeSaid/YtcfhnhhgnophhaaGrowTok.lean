/- Forests under construction: the cells of a token; a store into one. -/
import Derived.Test.YtcfhnhhgnophhaaCopyF
import Derived.Test.YtcfhnhhgnophhaaGrow2
set_option linter.unusedSimpArgs false
set_option linter.unusedVariables false
set_option maxRecDepth 20000
namespace Go.Proofs.Ytcfhnhhgnophhaa
open Go.RowKit
theorem grow_tok {w : World} {lo n c g : Nat} {css : List (List Value)} {ts : List Token} {i : Nat} {t : Token} (G : Grow TokenR 35 w lo (some ⟨g, 0, none⟩) n c css ts) (hi : ts[i]? = some t) :
    ∃ D d, css[i]? = some [.int .i64 t.Id, .int .i64 t.Parent, .slice D t.Names.length d, .int .i64 t.Made, .int .i64 t.Ends, .int .i64 t.Limit, .int .i64 t.Uses] ∧ lo ≤ g ∧ g < w.heap.size ∧
      (∀ (k : Nat) (u : Value), [Value.int .i64 t.Id, .int .i64 t.Parent, .slice D t.Names.length d, .int .i64 t.Made, .int .i64 t.Ends, .int .i64 t.Limit, .int .i64 t.Uses][k]? = some u → w.cell? ⟨g, i * 7 + k, none⟩ = some u ∧ w.frozen? ⟨g, i * 7 + k, none⟩ = false) := by
  obtain ⟨cs, h1, ⟨S, h2, _⟩, h3, h4, h5⟩ := G.at_ hi
  obtain ⟨v, _, rfl, q, _⟩ := own_Token h2
  obtain ⟨D, d, rfl⟩ := q.form
  exact ⟨D, d, h1, h3, h4, h5⟩
theorem Grow.some_addr {α : Type} {R : Rep α} {e : TypeId} {w : World} {lo n c : Nat} {A : Option Addr} {css : List (List Value)} {xs : List α} (h : Grow R e w lo A n c css xs) (hn : 0 < n) : ∃ g, A = some ⟨g, 0, none⟩ := by
  obtain ⟨gg, cap, e, _⟩ := h.row.form hn
  simp only [Value.slice.injEq] at e
  exact ⟨gg, e.1⟩
theorem Grow.forest {w : World} {lo n c : Nat} {A : Option Addr} {css : List (List Value)} {ts : List Token} (h : Grow TokenR 35 w lo A n c css ts) : ForestR.Own w (InR lo w.heap.size) [.slice A n c] ⟨ts⟩ := by
  have h1 := h.sl (by decide)
  have hl := h.len
  subst hl
  exact of_own_Forest (x := ⟨ts⟩) h1 (fun _ h => h)
theorem own_cells {w : World} {S : Nat → Prop} {cs : List Value} {t t' : Token} (h : TokenR.Own w S cs t) (hn : t'.Names = t.Names) {D : Option Addr} {d : Nat} (hcs : cs = [.int .i64 t.Id, .int .i64 t.Parent, .slice D t.Names.length d, .int .i64 t.Made, .int .i64 t.Ends, .int .i64 t.Limit, .int .i64 t.Uses]) :
    TokenR.Own w S [.int .i64 t'.Id, .int .i64 t'.Parent, .slice D t'.Names.length d, .int .i64 t'.Made, .int .i64 t'.Ends, .int .i64 t'.Limit, .int .i64 t'.Uses] t' := by
  obtain ⟨v, S0, rfl, q, hs⟩ := own_Token h
  simp only [List.cons.injEq, and_true, true_and] at hcs
  subst hcs
  exact of_own_Token (by rw [hn]; exact q) hs
end Go.Proofs.Ytcfhnhhgnophhaa

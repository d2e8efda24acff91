/- A forest and a list of integers, both new: the two results of revoking and sweeping. -/
import Derived.Test.YtcfhnhhgnophhaaPkPure
import Derived.Test.YtcfhnhhgnophhaaLess
import Derived.Test.YtcfhnhhgnophhaaCopyF
import Derived.Test.YtcfhnhhgnophhaaGrowTok
import Derived.Test.YtcfhnhhgnophhaaTwo
set_option linter.unusedSimpArgs false
set_option linter.unusedVariables false
set_option maxRecDepth 20000
namespace Go.Proofs.Ytcfhnhhgnophhaa
open Go.RowKit
theorem rev_fold' {ts : List Token} {id : Int} (h : forestOk ts = true) : revT ts id = (wFold (hasTok id) ts).1 ∧ revI ts id = (wFold (hasTok id) ts).2 := ⟨(rev_fold h).1.symm, (rev_fold h).2.symm⟩
def Pair (w : World) (lo : Nat) (cs : List Value) (f : Forest) (v : Value) (ys : List Int) : Prop :=
  ∃ Sa Sb, ForestR.Own w Sa cs f ∧ SlOwn intR 3 w Sb v ys ∧ (∀ g, Sa g → InR lo w.heap.size g) ∧ (∀ g, Sb g → InR lo w.heap.size g) ∧ ∀ g, Sa g → ¬ Sb g
theorem Pair.two {w w' : World} {lo a b c d : Nat} {cs : List Value} {f : Forest} {v : Value} {ys : List Int} (h1 : ForestR.Own w (InR a b) cs f) (h2 : SlOwn intR 3 w (InR c d) v ys) (o1 : Out (Off a b) w w') (o2 : Out (Off c d) w w') (hd : d ≤ a) (h3 : lo ≤ c) (h4 : lo ≤ a) (h5 : b ≤ w'.heap.size) (h6 : d ≤ w'.heap.size) : Pair w' lo cs f v ys :=
  ⟨_, _, ForestR.own_off h1 o1, SlOwn.off h2 o2, inR_mono h4 h5, inR_mono h3 h6, fun g hg hg' => by have e1 := hg.1; have e2 := hg'.2; omega⟩
theorem Grow.pair {w w' : World} {lo lo2 n d : Nat} {D : Option Addr} {css : List (List Value)} {ts : List Token} (G : Grow TokenR 35 w lo2 D n d css ts) (ho : Out (Off lo2 w.heap.size) w w') (h1 : lo ≤ lo2) (h2 : w.heap.size ≤ w'.heap.size) : Pair w' lo [.slice D n d] ⟨ts⟩ (.slice none 0 0) [] :=
  ⟨_, fun _ => False, ForestR.own_off G.forest ho, SlOwn.nil _ _ _ _, inR_mono h1 h2, fun _ h => h.elim, fun _ _ h => h⟩
theorem Two.pair {w w' : World} {lo lo2 n d m k : Nat} {D B : Option Addr} {css : List (List Value)} {ts : List Token} {ys : List Int} (T : Two TokenR 35 w lo2 D n d css ts B m k ys) (ho : Out (Off lo2 w.heap.size) w w') (h1 : lo ≤ lo2) (h2 : w.heap.size ≤ w'.heap.size) : Pair w' lo [.slice D n d] ⟨ts⟩ (.slice B m k) ys := by
  have hl := T.len
  obtain ⟨Sa, Sb, ha, hb, hsa, hsb, hd⟩ := T.sl (by decide)
  subst hl
  exact ⟨Sa, Sb, ForestR.own_offS (of_own_Forest (x := ⟨ts⟩) ha (fun _ h => h)) hsa ho, SlOwn.offS hb hsb ho, fun g hg => inR_mono h1 h2 g (hsa g hg), fun g hg => inR_mono h1 h2 g (hsb g hg), hd⟩
end Go.Proofs.Ytcfhnhhgnophhaa

/- AddLease of the program, as the law asks. -/
import Derived.Test.YtohfnpohmieknaaDoorAddImpl
set_option linter.unusedSimpArgs false
set_option linter.unusedVariables false
set_option maxRecDepth 20000
namespace Go.Proofs.YtohfnpohmieknaaDoor
open Go.RowKit
theorem addL_paths {ls : List Lease} {l : Lease} (h : ∀ x ∈ ls, x.Path.size ≤ 9223372036854775807) (hs : l.Path.size ≤ 9223372036854775807) : ∀ x ∈ addL ls l, x.Path.size ≤ 9223372036854775807 := by
  unfold addL
  cases addOk ls l
  · exact h
  · intro x hx
    rcases List.mem_append.1 hx with hx | hx
    · exact h x hx
    · rw [List.mem_singleton.1 hx]; exact hs
end Go.Proofs.YtohfnpohmieknaaDoor

/-
  No cell of these rows narrows 'for every input' (looked for: loops, veiled, ifaces, maps, wideKeys, modest, calm, conditions, laid).
  DERIVED. THE GIVEN ROWS OF THIS SEAT. 6 by the template 'for every input the law returns true; each argument reads behind the call as it read before'; 0 by the template 'total and deterministic' (their statements: YtkdgpbcfdbmnoaaTotals.lean).
  GIVEN WITH THE SEED: the statements are not yours to turn. If you find one false, say at which input.
  Laid BY PROGRAM, IN A SANDBOX (cutbox-rows.mjs): the forced cells as the released guide's own fill.sh prints them over the translation d2d79cda885653d8… (all of the seat's roots in one cut). By AI agents, Wed Nov 11 2026. No macro, syntax, notation, axiom, sorry.
-/
import Derived.Test.YtkdgpbcfdbmnoaaChecked
import GoSem.Claim
import GoSem.ClaimJoined
import GoSem.ClaimMapViews
import Derived.JoinedTies
import Derived.KernelRfl
namespace Go.Proofs.Ytkdgpbcfdbmnoaa
/- THE CELL 'sum', in the pinned program and in every row, IS THE sha256 OF THE DUMP (.gsa) THAT YtkdgpbcfdbmnoaaProg.lean LOADS. Nothing in Lean hashes anything: it is a label: what it is worth is what the hold of that sum in a sandbox is worth. -/
noncomputable def Try.pinned : Pinned := { name := "ytkdgpbcfdbmnoaa", sum := "d2d79cda885653d8cdc9fbc0c9aad24b217bb4a6a19e988f4ed72125a223e99a", checked := Try.checked }
namespace Rows
def none {H : Type} : Left H := { results := [], args := [] }

/-- 'laws.FnExactClockOk': WHATEVER THE INPUT: true; the input reads as it did. -/
def fnExactClockOkSpec : ChangeSpec := { name := "fnExactClockOk", fn := fun _ => fun
  | [d] => { results := [.lit (.bool true)], args := [d] }
  | _ => none }
def fnExactClockOkRow : OpenClaim := { program := "ytkdgpbcfdbmnoaa", sum := "d2d79cda885653d8cdc9fbc0c9aad24b217bb4a6a19e988f4ed72125a223e99a", func := "loop.example/g00705/laws.FnExactClockOk", spec := "fnExactClockOk", unfollowed := true, recurses := true, apart := false }
def FnExactClockOkSaid : Prop := fnExactClockOkRow.holds Try.pinned (OpenSpec.ofChange fnExactClockOkSpec)

/-- ITS FALSE NEIGHBOUR: 'it returns false'. Refute it at one input. -/
def fnExactClockOkWrong : ChangeSpec := { name := "fnExactClockOk", fn := fun _ => fun
  | [d] => { results := [.lit (.bool false)], args := [d] }
  | _ => none }
def FnExactClockOkWrongFalsely : Prop := fnExactClockOkRow.holds Try.pinned (OpenSpec.ofChange fnExactClockOkWrong)

/-- 'laws.FnExactNextDue': WHATEVER THE INPUT: true; the input reads as it did. -/
def fnExactNextDueSpec : ChangeSpec := { name := "fnExactNextDue", fn := fun _ => fun
  | [d] => { results := [.lit (.bool true)], args := [d] }
  | _ => none }
def fnExactNextDueRow : OpenClaim := { program := "ytkdgpbcfdbmnoaa", sum := "d2d79cda885653d8cdc9fbc0c9aad24b217bb4a6a19e988f4ed72125a223e99a", func := "loop.example/g00705/laws.FnExactNextDue", spec := "fnExactNextDue", unfollowed := true, recurses := true, apart := false }
def FnExactNextDueSaid : Prop := fnExactNextDueRow.holds Try.pinned (OpenSpec.ofChange fnExactNextDueSpec)

/-- ITS FALSE NEIGHBOUR: 'it returns false'. Refute it at one input. -/
def fnExactNextDueWrong : ChangeSpec := { name := "fnExactNextDue", fn := fun _ => fun
  | [d] => { results := [.lit (.bool false)], args := [d] }
  | _ => none }
def FnExactNextDueWrongFalsely : Prop := fnExactNextDueRow.holds Try.pinned (OpenSpec.ofChange fnExactNextDueWrong)

/-- 'laws.FnExactTimerAt': WHATEVER THE INPUT: true; the input reads as it did. -/
def fnExactTimerAtSpec : ChangeSpec := { name := "fnExactTimerAt", fn := fun _ => fun
  | [d1, d2] => { results := [.lit (.bool true)], args := [d1, d2] }
  | _ => none }
def fnExactTimerAtRow : OpenClaim := { program := "ytkdgpbcfdbmnoaa", sum := "d2d79cda885653d8cdc9fbc0c9aad24b217bb4a6a19e988f4ed72125a223e99a", func := "loop.example/g00705/laws.FnExactTimerAt", spec := "fnExactTimerAt", unfollowed := true, recurses := true, apart := false }
def FnExactTimerAtSaid : Prop := fnExactTimerAtRow.holds Try.pinned (OpenSpec.ofChange fnExactTimerAtSpec)

/-- ITS FALSE NEIGHBOUR: 'it returns false'. Refute it at one input. -/
def fnExactTimerAtWrong : ChangeSpec := { name := "fnExactTimerAt", fn := fun _ => fun
  | [d1, d2] => { results := [.lit (.bool false)], args := [d1, d2] }
  | _ => none }
def FnExactTimerAtWrongFalsely : Prop := fnExactTimerAtRow.holds Try.pinned (OpenSpec.ofChange fnExactTimerAtWrong)

/-- 'laws.FnExactDueBy': WHATEVER THE INPUT: true; the input reads as it did. -/
def fnExactDueBySpec : ChangeSpec := { name := "fnExactDueBy", fn := fun _ => fun
  | [d1, d2] => { results := [.lit (.bool true)], args := [d1, d2] }
  | _ => none }
def fnExactDueByRow : OpenClaim := { program := "ytkdgpbcfdbmnoaa", sum := "d2d79cda885653d8cdc9fbc0c9aad24b217bb4a6a19e988f4ed72125a223e99a", func := "loop.example/g00705/laws.FnExactDueBy", spec := "fnExactDueBy", unfollowed := true, recurses := true, apart := false }
def FnExactDueBySaid : Prop := fnExactDueByRow.holds Try.pinned (OpenSpec.ofChange fnExactDueBySpec)

/-- ITS FALSE NEIGHBOUR: 'it returns false'. Refute it at one input. -/
def fnExactDueByWrong : ChangeSpec := { name := "fnExactDueBy", fn := fun _ => fun
  | [d1, d2] => { results := [.lit (.bool false)], args := [d1, d2] }
  | _ => none }
def FnExactDueByWrongFalsely : Prop := fnExactDueByRow.holds Try.pinned (OpenSpec.ofChange fnExactDueByWrong)

/-- 'laws.FnExactStopTimer': WHATEVER THE INPUT: true; the input reads as it did. -/
def fnExactStopTimerSpec : ChangeSpec := { name := "fnExactStopTimer", fn := fun _ => fun
  | [d1, d2] => { results := [.lit (.bool true)], args := [d1, d2] }
  | _ => none }
def fnExactStopTimerRow : OpenClaim := { program := "ytkdgpbcfdbmnoaa", sum := "d2d79cda885653d8cdc9fbc0c9aad24b217bb4a6a19e988f4ed72125a223e99a", func := "loop.example/g00705/laws.FnExactStopTimer", spec := "fnExactStopTimer", unfollowed := true, recurses := true, apart := false }
def FnExactStopTimerSaid : Prop := fnExactStopTimerRow.holds Try.pinned (OpenSpec.ofChange fnExactStopTimerSpec)

/-- ITS FALSE NEIGHBOUR: 'it returns false'. Refute it at one input. -/
def fnExactStopTimerWrong : ChangeSpec := { name := "fnExactStopTimer", fn := fun _ => fun
  | [d1, d2] => { results := [.lit (.bool false)], args := [d1, d2] }
  | _ => none }
def FnExactStopTimerWrongFalsely : Prop := fnExactStopTimerRow.holds Try.pinned (OpenSpec.ofChange fnExactStopTimerWrong)

/-- 'laws.FnExactAdvance': WHATEVER THE INPUT: true; the input reads as it did. -/
def fnExactAdvanceSpec : ChangeSpec := { name := "fnExactAdvance", fn := fun _ => fun
  | [d1, d2] => { results := [.lit (.bool true)], args := [d1, d2] }
  | _ => none }
def fnExactAdvanceRow : OpenClaim := { program := "ytkdgpbcfdbmnoaa", sum := "d2d79cda885653d8cdc9fbc0c9aad24b217bb4a6a19e988f4ed72125a223e99a", func := "loop.example/g00705/laws.FnExactAdvance", spec := "fnExactAdvance", unfollowed := true, recurses := true, apart := false }
def FnExactAdvanceSaid : Prop := fnExactAdvanceRow.holds Try.pinned (OpenSpec.ofChange fnExactAdvanceSpec)

/-- ITS FALSE NEIGHBOUR: 'it returns false'. Refute it at one input. -/
def fnExactAdvanceWrong : ChangeSpec := { name := "fnExactAdvance", fn := fun _ => fun
  | [d1, d2] => { results := [.lit (.bool false)], args := [d1, d2] }
  | _ => none }
def FnExactAdvanceWrongFalsely : Prop := fnExactAdvanceRow.holds Try.pinned (OpenSpec.ofChange fnExactAdvanceWrong)

/- THE SECOND FORM. 'bulk': how many values and letters a reading holds, each counted each time it is reached (what is shared counts as often as it is met; a slice's spare places count too). A statement '..UptoSaid' is the law's where the arguments, and the package variables that the reading takes, are together of bulk at most 1048576: NARROWER than '..Said'. Prove '..Said' where nothing that the law and all that it calls make is longer than what came in: it says more and counts as full. Else prove '..UptoSaid'. A law counts once. -/
mutual
def uptoBulk {H : Type} : DataW H → Nat
  | .lit (.string bytes) => bytes.length + 1
  | .lit _ => 1
  | .nil => 1
  | .ptr d => uptoBulk d + 1
  | .slice elems spare => uptoBulkAll elems + uptoBulkAll spare + 1
  | .agg parts => uptoBulkAll parts + 1
  | .iface _ d => uptoBulk d + 1
  | .map entries => uptoBulkEntries entries + 1
  | .held _ => 1
def uptoBulkAll {H : Type} : List (DataW H) → Nat
  | [] => 0
  | d :: r => uptoBulk d + uptoBulkAll r
def uptoBulkEntries {H : Type} : List (Lit × DataW H) → Nat
  | [] => 0
  | x :: r => uptoBulkEntry x + uptoBulkEntries r
def uptoBulkEntry {H : Type} : Lit × DataW H → Nat
  | (.string bytes, d) => bytes.length + uptoBulk d + 1
  | (_, d) => uptoBulk d + 1
 end
def uptoSmall : (H : Type) → List (DataW H) → Bool := fun _ ds => decide (uptoBulkAll ds ≤ 1048576)
def OpenSpec.upto (s : _root_.Go.ChangeSpec) : _root_.Go.OpenSpec := { _root_.Go.OpenSpec.ofChange s with cond := some uptoSmall }

/-- 'laws.FnExactClockOk', WHERE WHAT IT READS IS OF BULK AT MOST 1048576: true; the input reads as it did. -/
def fnExactClockOkUptoRow : OpenClaim := { program := "ytkdgpbcfdbmnoaa", sum := "d2d79cda885653d8cdc9fbc0c9aad24b217bb4a6a19e988f4ed72125a223e99a", func := "loop.example/g00705/laws.FnExactClockOk", spec := "fnExactClockOk", unfollowed := true, recurses := true, apart := false, narrowed := true }
def FnExactClockOkUptoSaid : Prop := fnExactClockOkUptoRow.holds Try.pinned (OpenSpec.upto fnExactClockOkSpec)

/-- 'laws.FnExactNextDue', WHERE WHAT IT READS IS OF BULK AT MOST 1048576: true; the input reads as it did. -/
def fnExactNextDueUptoRow : OpenClaim := { program := "ytkdgpbcfdbmnoaa", sum := "d2d79cda885653d8cdc9fbc0c9aad24b217bb4a6a19e988f4ed72125a223e99a", func := "loop.example/g00705/laws.FnExactNextDue", spec := "fnExactNextDue", unfollowed := true, recurses := true, apart := false, narrowed := true }
def FnExactNextDueUptoSaid : Prop := fnExactNextDueUptoRow.holds Try.pinned (OpenSpec.upto fnExactNextDueSpec)

/-- 'laws.FnExactTimerAt', WHERE WHAT IT READS IS OF BULK AT MOST 1048576: true; the input reads as it did. -/
def fnExactTimerAtUptoRow : OpenClaim := { program := "ytkdgpbcfdbmnoaa", sum := "d2d79cda885653d8cdc9fbc0c9aad24b217bb4a6a19e988f4ed72125a223e99a", func := "loop.example/g00705/laws.FnExactTimerAt", spec := "fnExactTimerAt", unfollowed := true, recurses := true, apart := false, narrowed := true }
def FnExactTimerAtUptoSaid : Prop := fnExactTimerAtUptoRow.holds Try.pinned (OpenSpec.upto fnExactTimerAtSpec)

/-- 'laws.FnExactDueBy', WHERE WHAT IT READS IS OF BULK AT MOST 1048576: true; the input reads as it did. -/
def fnExactDueByUptoRow : OpenClaim := { program := "ytkdgpbcfdbmnoaa", sum := "d2d79cda885653d8cdc9fbc0c9aad24b217bb4a6a19e988f4ed72125a223e99a", func := "loop.example/g00705/laws.FnExactDueBy", spec := "fnExactDueBy", unfollowed := true, recurses := true, apart := false, narrowed := true }
def FnExactDueByUptoSaid : Prop := fnExactDueByUptoRow.holds Try.pinned (OpenSpec.upto fnExactDueBySpec)

/-- 'laws.FnExactStopTimer', WHERE WHAT IT READS IS OF BULK AT MOST 1048576: true; the input reads as it did. -/
def fnExactStopTimerUptoRow : OpenClaim := { program := "ytkdgpbcfdbmnoaa", sum := "d2d79cda885653d8cdc9fbc0c9aad24b217bb4a6a19e988f4ed72125a223e99a", func := "loop.example/g00705/laws.FnExactStopTimer", spec := "fnExactStopTimer", unfollowed := true, recurses := true, apart := false, narrowed := true }
def FnExactStopTimerUptoSaid : Prop := fnExactStopTimerUptoRow.holds Try.pinned (OpenSpec.upto fnExactStopTimerSpec)

/-- 'laws.FnExactAdvance', WHERE WHAT IT READS IS OF BULK AT MOST 1048576: true; the input reads as it did. -/
def fnExactAdvanceUptoRow : OpenClaim := { program := "ytkdgpbcfdbmnoaa", sum := "d2d79cda885653d8cdc9fbc0c9aad24b217bb4a6a19e988f4ed72125a223e99a", func := "loop.example/g00705/laws.FnExactAdvance", spec := "fnExactAdvance", unfollowed := true, recurses := true, apart := false, narrowed := true }
def FnExactAdvanceUptoSaid : Prop := fnExactAdvanceUptoRow.holds Try.pinned (OpenSpec.upto fnExactAdvanceSpec)

end Rows
end Go.Proofs.Ytkdgpbcfdbmnoaa

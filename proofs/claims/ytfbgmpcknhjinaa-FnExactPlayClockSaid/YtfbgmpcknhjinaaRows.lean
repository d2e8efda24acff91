/-
  No cell of these rows narrows 'for every input' (looked for: loops, veiled, ifaces, maps, wideKeys, modest, calm, conditions, laid).
  DERIVED. THE GIVEN ROWS OF THIS SEAT. 4 by the template 'for every input the law returns true; each argument reads behind the call as it read before'; 0 by the template 'total and deterministic' (their statements: YtfbgmpcknhjinaaTotals.lean).
  GIVEN WITH THE SEED: the statements are not yours to turn. If you find one false, say at which input.
  Laid BY PROGRAM, IN A SANDBOX (cutbox-rows.mjs): the forced cells as the released guide's own fill.sh prints them over the translation ac47ac0d42075ac8… (all of the seat's roots in one cut). By AI agents, Wed Nov 11 2026. No macro, syntax, notation, axiom, sorry.
-/
import Derived.Test.YtfbgmpcknhjinaaChecked
import GoSem.Claim
import GoSem.ClaimJoined
import GoSem.ClaimMapViews
import Derived.JoinedTies
import Derived.KernelRfl
namespace Go.Proofs.Ytfbgmpcknhjinaa
/- THE CELL 'sum', in the pinned program and in every row, IS THE sha256 OF THE DUMP (.gsa) THAT YtfbgmpcknhjinaaProg.lean LOADS. Nothing in Lean hashes anything: it is a label: what it is worth is what the hold of that sum in a sandbox is worth. -/
noncomputable def Try.pinned : Pinned := { name := "ytfbgmpcknhjinaa", sum := "ac47ac0d42075ac8667076e3dee8fa9c9df7937a0fa834a4db785afb6853fd95", checked := Try.checked }
namespace Rows
def none {H : Type} : Left H := { results := [], args := [] }

/-- 'laws.FnExactAdvance': WHATEVER THE INPUT: true; the input reads as it did. -/
def fnExactAdvanceSpec : ChangeSpec := { name := "fnExactAdvance", fn := fun _ => fun
  | [d1, d2] => { results := [.lit (.bool true)], args := [d1, d2] }
  | _ => none }
def fnExactAdvanceRow : OpenClaim := { program := "ytfbgmpcknhjinaa", sum := "ac47ac0d42075ac8667076e3dee8fa9c9df7937a0fa834a4db785afb6853fd95", func := "loop.example/g00705/laws.FnExactAdvance", spec := "fnExactAdvance", unfollowed := true, recurses := true, apart := false }
def FnExactAdvanceSaid : Prop := fnExactAdvanceRow.holds Try.pinned (OpenSpec.ofChange fnExactAdvanceSpec)

/-- ITS FALSE NEIGHBOUR: 'it returns false'. Refute it at one input. -/
def fnExactAdvanceWrong : ChangeSpec := { name := "fnExactAdvance", fn := fun _ => fun
  | [d1, d2] => { results := [.lit (.bool false)], args := [d1, d2] }
  | _ => none }
def FnExactAdvanceWrongFalsely : Prop := fnExactAdvanceRow.holds Try.pinned (OpenSpec.ofChange fnExactAdvanceWrong)

/-- 'laws.FnExactSetTimer': WHATEVER THE INPUT: true; the input reads as it did. -/
def fnExactSetTimerSpec : ChangeSpec := { name := "fnExactSetTimer", fn := fun _ => fun
  | [d1, d2, d3] => { results := [.lit (.bool true)], args := [d1, d2, d3] }
  | _ => none }
def fnExactSetTimerRow : OpenClaim := { program := "ytfbgmpcknhjinaa", sum := "ac47ac0d42075ac8667076e3dee8fa9c9df7937a0fa834a4db785afb6853fd95", func := "loop.example/g00705/laws.FnExactSetTimer", spec := "fnExactSetTimer", inPlace := ["slices.overlaps[loop.example/g00705/impl.Timer]"], unfollowed := true, recurses := true, apart := false }
def FnExactSetTimerSaid : Prop := fnExactSetTimerRow.holds Try.pinned (OpenSpec.ofChange fnExactSetTimerSpec)

/-- ITS FALSE NEIGHBOUR: 'it returns false'. Refute it at one input. -/
def fnExactSetTimerWrong : ChangeSpec := { name := "fnExactSetTimer", fn := fun _ => fun
  | [d1, d2, d3] => { results := [.lit (.bool false)], args := [d1, d2, d3] }
  | _ => none }
def FnExactSetTimerWrongFalsely : Prop := fnExactSetTimerRow.holds Try.pinned (OpenSpec.ofChange fnExactSetTimerWrong)

/-- 'laws.FnExactPlayClock': WHATEVER THE INPUT: true; the input reads as it did. -/
def fnExactPlayClockSpec : ChangeSpec := { name := "fnExactPlayClock", fn := fun _ => fun
  | [d1, d2] => { results := [.lit (.bool true)], args := [d1, d2] }
  | _ => none }
def fnExactPlayClockRow : OpenClaim := { program := "ytfbgmpcknhjinaa", sum := "ac47ac0d42075ac8667076e3dee8fa9c9df7937a0fa834a4db785afb6853fd95", func := "loop.example/g00705/laws.FnExactPlayClock", spec := "fnExactPlayClock", inPlace := ["slices.overlaps[loop.example/g00705/impl.Timer]"], unfollowed := true, recurses := true, apart := false }
def FnExactPlayClockSaid : Prop := fnExactPlayClockRow.holds Try.pinned (OpenSpec.ofChange fnExactPlayClockSpec)

/-- ITS FALSE NEIGHBOUR: 'it returns false'. Refute it at one input. -/
def fnExactPlayClockWrong : ChangeSpec := { name := "fnExactPlayClock", fn := fun _ => fun
  | [d1, d2] => { results := [.lit (.bool false)], args := [d1, d2] }
  | _ => none }
def FnExactPlayClockWrongFalsely : Prop := fnExactPlayClockRow.holds Try.pinned (OpenSpec.ofChange fnExactPlayClockWrong)

/-- 'laws.FnTimers': WHATEVER THE INPUT: true; the input reads as it did. -/
def fnTimersSpec : ChangeSpec := { name := "fnTimers", fn := fun _ => fun
  | [d] => { results := [.lit (.bool true)], args := [d] }
  | _ => none }
def fnTimersRow : OpenClaim := { program := "ytfbgmpcknhjinaa", sum := "ac47ac0d42075ac8667076e3dee8fa9c9df7937a0fa834a4db785afb6853fd95", func := "loop.example/g00705/laws.FnTimers", spec := "fnTimers", inPlace := ["slices.overlaps[loop.example/g00705/impl.Timer]"], unfollowed := true, recurses := true, apart := false }
def FnTimersSaid : Prop := fnTimersRow.holds Try.pinned (OpenSpec.ofChange fnTimersSpec)

/-- ITS FALSE NEIGHBOUR: 'it returns false'. Refute it at one input. -/
def fnTimersWrong : ChangeSpec := { name := "fnTimers", fn := fun _ => fun
  | [d] => { results := [.lit (.bool false)], args := [d] }
  | _ => none }
def FnTimersWrongFalsely : Prop := fnTimersRow.holds Try.pinned (OpenSpec.ofChange fnTimersWrong)

/- THE SECOND FORM. 'bulk': how many values and letters a reading holds, each counted each time it is reached (what is shared counts as often as it is met; a slice's spare places count too). A statement '..UptoSaid' is the law's where the arguments, and the package variables that the reading takes, are together of bulk at most 1048576: NARROWER than '..Said'. Prove '..Said' where nothing that the law and all that it calls make is longer than what came in: it says more and counts as full. Else prove '..UptoSaid'. A law counts once. -/
mutual
def uptoBulk {H : Type} : DataW H → Nat
  | .lit (.string bytes) => bytes.length + 1
  | .lit _ => 1
  | .nil => 1
  | .ptr d => uptoBulk d + 1
  | .slice elems spare => uptoBulkAll elems + uptoBulkAll spare + 1
  | .agg parts => uptoBulkAll parts + 1
  | .iface _ d => uptoBulk d + 1
  | .map entries => uptoBulkEntries entries + 1
  | .held _ => 1
def uptoBulkAll {H : Type} : List (DataW H) → Nat
  | [] => 0
  | d :: r => uptoBulk d + uptoBulkAll r
def uptoBulkEntries {H : Type} : List (Lit × DataW H) → Nat
  | [] => 0
  | x :: r => uptoBulkEntry x + uptoBulkEntries r
def uptoBulkEntry {H : Type} : Lit × DataW H → Nat
  | (.string bytes, d) => bytes.length + uptoBulk d + 1
  | (_, d) => uptoBulk d + 1
 end
def uptoSmall : (H : Type) → List (DataW H) → Bool := fun _ ds => decide (uptoBulkAll ds ≤ 1048576)
def OpenSpec.upto (s : _root_.Go.ChangeSpec) : _root_.Go.OpenSpec := { _root_.Go.OpenSpec.ofChange s with cond := some uptoSmall }

/-- 'laws.FnExactAdvance', WHERE WHAT IT READS IS OF BULK AT MOST 1048576: true; the input reads as it did. -/
def fnExactAdvanceUptoRow : OpenClaim := { program := "ytfbgmpcknhjinaa", sum := "ac47ac0d42075ac8667076e3dee8fa9c9df7937a0fa834a4db785afb6853fd95", func := "loop.example/g00705/laws.FnExactAdvance", spec := "fnExactAdvance", unfollowed := true, recurses := true, apart := false, narrowed := true }
def FnExactAdvanceUptoSaid : Prop := fnExactAdvanceUptoRow.holds Try.pinned (OpenSpec.upto fnExactAdvanceSpec)

/-- 'laws.FnExactSetTimer', WHERE WHAT IT READS IS OF BULK AT MOST 1048576: true; the input reads as it did. -/
def fnExactSetTimerUptoRow : OpenClaim := { program := "ytfbgmpcknhjinaa", sum := "ac47ac0d42075ac8667076e3dee8fa9c9df7937a0fa834a4db785afb6853fd95", func := "loop.example/g00705/laws.FnExactSetTimer", spec := "fnExactSetTimer", inPlace := ["slices.overlaps[loop.example/g00705/impl.Timer]"], unfollowed := true, recurses := true, apart := false, narrowed := true }
def FnExactSetTimerUptoSaid : Prop := fnExactSetTimerUptoRow.holds Try.pinned (OpenSpec.upto fnExactSetTimerSpec)

/-- 'laws.FnExactPlayClock', WHERE WHAT IT READS IS OF BULK AT MOST 1048576: true; the input reads as it did. -/
def fnExactPlayClockUptoRow : OpenClaim := { program := "ytfbgmpcknhjinaa", sum := "ac47ac0d42075ac8667076e3dee8fa9c9df7937a0fa834a4db785afb6853fd95", func := "loop.example/g00705/laws.FnExactPlayClock", spec := "fnExactPlayClock", inPlace := ["slices.overlaps[loop.example/g00705/impl.Timer]"], unfollowed := true, recurses := true, apart := false, narrowed := true }
def FnExactPlayClockUptoSaid : Prop := fnExactPlayClockUptoRow.holds Try.pinned (OpenSpec.upto fnExactPlayClockSpec)

/-- 'laws.FnTimers', WHERE WHAT IT READS IS OF BULK AT MOST 1048576: true; the input reads as it did. -/
def fnTimersUptoRow : OpenClaim := { program := "ytfbgmpcknhjinaa", sum := "ac47ac0d42075ac8667076e3dee8fa9c9df7937a0fa834a4db785afb6853fd95", func := "loop.example/g00705/laws.FnTimers", spec := "fnTimers", inPlace := ["slices.overlaps[loop.example/g00705/impl.Timer]"], unfollowed := true, recurses := true, apart := false, narrowed := true }
def FnTimersUptoSaid : Prop := fnTimersUptoRow.holds Try.pinned (OpenSpec.upto fnTimersSpec)

end Rows
end Go.Proofs.Ytfbgmpcknhjinaa

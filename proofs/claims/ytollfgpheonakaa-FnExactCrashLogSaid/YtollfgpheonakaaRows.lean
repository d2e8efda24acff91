/-
  No cell of these rows narrows 'for every input' (looked for: loops, veiled, ifaces, maps, wideKeys, modest, calm, conditions, laid).
  DERIVED. THE GIVEN ROWS OF THIS SEAT. 6 by the template 'for every input the law returns true; each argument reads behind the call as it read before'; 0 by the template 'total and deterministic' (their statements: YtollfgpheonakaaTotals.lean).
  GIVEN WITH THE SEED: the statements are not yours to turn. If you find one false, say at which input.
  Laid BY PROGRAM, IN A SANDBOX (cutbox-rows.mjs): the forced cells as the released guide's own fill.sh prints them over the translation a34d62a83441bb90… (all of the seat's roots in one cut). By AI agents, Wed Nov 11 2026. No macro, syntax, notation, axiom, sorry.
-/
import Derived.Test.YtollfgpheonakaaChecked
import GoSem.Claim
import GoSem.ClaimJoined
import GoSem.ClaimMapViews
import Derived.JoinedTies
import Derived.KernelRfl
namespace Go.Proofs.Ytollfgpheonakaa
/- THE CELL 'sum', in the pinned program and in every row, IS THE sha256 OF THE DUMP (.gsa) THAT YtollfgpheonakaaProg.lean LOADS. Nothing in Lean hashes anything: it is a label: what it is worth is what the hold of that sum in a sandbox is worth. -/
noncomputable def Try.pinned : Pinned := { name := "ytollfgpheonakaa", sum := "a34d62a83441bb90a83f96f018c62757014772246ab68b316c2397639e55bacd", checked := Try.checked }
namespace Rows
def none {H : Type} : Left H := { results := [], args := [] }

/-- 'laws.FnExactPutNum': WHATEVER THE INPUT: true; the input reads as it did. -/
def fnExactPutNumSpec : ChangeSpec := { name := "fnExactPutNum", fn := fun _ => fun
  | [d] => { results := [.lit (.bool true)], args := [d] }
  | _ => none }
def fnExactPutNumRow : OpenClaim := { program := "ytollfgpheonakaa", sum := "a34d62a83441bb90a83f96f018c62757014772246ab68b316c2397639e55bacd", func := "loop.example/g00705/laws.FnExactPutNum", spec := "fnExactPutNum", apart := false }
def FnExactPutNumSaid : Prop := fnExactPutNumRow.holds Try.pinned (OpenSpec.ofChange fnExactPutNumSpec)

/-- ITS FALSE NEIGHBOUR: 'it returns false'. Refute it at one input. -/
def fnExactPutNumWrong : ChangeSpec := { name := "fnExactPutNum", fn := fun _ => fun
  | [d] => { results := [.lit (.bool false)], args := [d] }
  | _ => none }
def FnExactPutNumWrongFalsely : Prop := fnExactPutNumRow.holds Try.pinned (OpenSpec.ofChange fnExactPutNumWrong)

/-- 'laws.FnExactTakeNum': WHATEVER THE INPUT: true; the input reads as it did. -/
def fnExactTakeNumSpec : ChangeSpec := { name := "fnExactTakeNum", fn := fun _ => fun
  | [d1, d2] => { results := [.lit (.bool true)], args := [d1, d2] }
  | _ => none }
def fnExactTakeNumRow : OpenClaim := { program := "ytollfgpheonakaa", sum := "a34d62a83441bb90a83f96f018c62757014772246ab68b316c2397639e55bacd", func := "loop.example/g00705/laws.FnExactTakeNum", spec := "fnExactTakeNum", apart := false }
def FnExactTakeNumSaid : Prop := fnExactTakeNumRow.holds Try.pinned (OpenSpec.ofChange fnExactTakeNumSpec)

/-- ITS FALSE NEIGHBOUR: 'it returns false'. Refute it at one input. -/
def fnExactTakeNumWrong : ChangeSpec := { name := "fnExactTakeNum", fn := fun _ => fun
  | [d1, d2] => { results := [.lit (.bool false)], args := [d1, d2] }
  | _ => none }
def FnExactTakeNumWrongFalsely : Prop := fnExactTakeNumRow.holds Try.pinned (OpenSpec.ofChange fnExactTakeNumWrong)

/-- 'laws.FnExactSameRecord': WHATEVER THE INPUT: true; the input reads as it did. -/
def fnExactSameRecordSpec : ChangeSpec := { name := "fnExactSameRecord", fn := fun _ => fun
  | [d1, d2] => { results := [.lit (.bool true)], args := [d1, d2] }
  | _ => none }
def fnExactSameRecordRow : OpenClaim := { program := "ytollfgpheonakaa", sum := "a34d62a83441bb90a83f96f018c62757014772246ab68b316c2397639e55bacd", func := "loop.example/g00705/laws.FnExactSameRecord", spec := "fnExactSameRecord", apart := false }
def FnExactSameRecordSaid : Prop := fnExactSameRecordRow.holds Try.pinned (OpenSpec.ofChange fnExactSameRecordSpec)

/-- ITS FALSE NEIGHBOUR: 'it returns false'. Refute it at one input. -/
def fnExactSameRecordWrong : ChangeSpec := { name := "fnExactSameRecord", fn := fun _ => fun
  | [d1, d2] => { results := [.lit (.bool false)], args := [d1, d2] }
  | _ => none }
def FnExactSameRecordWrongFalsely : Prop := fnExactSameRecordRow.holds Try.pinned (OpenSpec.ofChange fnExactSameRecordWrong)

/-- 'laws.FnExactRecordOk': WHATEVER THE INPUT: true; the input reads as it did. -/
def fnExactRecordOkSpec : ChangeSpec := { name := "fnExactRecordOk", fn := fun _ => fun
  | [d] => { results := [.lit (.bool true)], args := [d] }
  | _ => none }
def fnExactRecordOkRow : OpenClaim := { program := "ytollfgpheonakaa", sum := "a34d62a83441bb90a83f96f018c62757014772246ab68b316c2397639e55bacd", func := "loop.example/g00705/laws.FnExactRecordOk", spec := "fnExactRecordOk", unfollowed := true, recurses := true, apart := false }
def FnExactRecordOkSaid : Prop := fnExactRecordOkRow.holds Try.pinned (OpenSpec.ofChange fnExactRecordOkSpec)

/-- ITS FALSE NEIGHBOUR: 'it returns false'. Refute it at one input. -/
def fnExactRecordOkWrong : ChangeSpec := { name := "fnExactRecordOk", fn := fun _ => fun
  | [d] => { results := [.lit (.bool false)], args := [d] }
  | _ => none }
def FnExactRecordOkWrongFalsely : Prop := fnExactRecordOkRow.holds Try.pinned (OpenSpec.ofChange fnExactRecordOkWrong)

/-- 'laws.FnExactSyncLog': WHATEVER THE INPUT: true; the input reads as it did. -/
def fnExactSyncLogSpec : ChangeSpec := { name := "fnExactSyncLog", fn := fun _ => fun
  | [d] => { results := [.lit (.bool true)], args := [d] }
  | _ => none }
def fnExactSyncLogRow : OpenClaim := { program := "ytollfgpheonakaa", sum := "a34d62a83441bb90a83f96f018c62757014772246ab68b316c2397639e55bacd", func := "loop.example/g00705/laws.FnExactSyncLog", spec := "fnExactSyncLog", apart := false }
def FnExactSyncLogSaid : Prop := fnExactSyncLogRow.holds Try.pinned (OpenSpec.ofChange fnExactSyncLogSpec)

/-- ITS FALSE NEIGHBOUR: 'it returns false'. Refute it at one input. -/
def fnExactSyncLogWrong : ChangeSpec := { name := "fnExactSyncLog", fn := fun _ => fun
  | [d] => { results := [.lit (.bool false)], args := [d] }
  | _ => none }
def FnExactSyncLogWrongFalsely : Prop := fnExactSyncLogRow.holds Try.pinned (OpenSpec.ofChange fnExactSyncLogWrong)

/-- 'laws.FnExactCrashLog': WHATEVER THE INPUT: true; the input reads as it did. -/
def fnExactCrashLogSpec : ChangeSpec := { name := "fnExactCrashLog", fn := fun _ => fun
  | [d1, d2] => { results := [.lit (.bool true)], args := [d1, d2] }
  | _ => none }
def fnExactCrashLogRow : OpenClaim := { program := "ytollfgpheonakaa", sum := "a34d62a83441bb90a83f96f018c62757014772246ab68b316c2397639e55bacd", func := "loop.example/g00705/laws.FnExactCrashLog", spec := "fnExactCrashLog", apart := false }
def FnExactCrashLogSaid : Prop := fnExactCrashLogRow.holds Try.pinned (OpenSpec.ofChange fnExactCrashLogSpec)

/-- ITS FALSE NEIGHBOUR: 'it returns false'. Refute it at one input. -/
def fnExactCrashLogWrong : ChangeSpec := { name := "fnExactCrashLog", fn := fun _ => fun
  | [d1, d2] => { results := [.lit (.bool false)], args := [d1, d2] }
  | _ => none }
def FnExactCrashLogWrongFalsely : Prop := fnExactCrashLogRow.holds Try.pinned (OpenSpec.ofChange fnExactCrashLogWrong)

/- THE SECOND FORM. 'bulk': how many values and letters a reading holds, each counted each time it is reached (what is shared counts as often as it is met; a slice's spare places count too). A statement '..UptoSaid' is the law's where the arguments, and the package variables that the reading takes, are together of bulk at most 1048576: NARROWER than '..Said'. Prove '..Said' where nothing that the law and all that it calls make is longer than what came in: it says more and counts as full. Else prove '..UptoSaid'. A law counts once. -/
mutual
def uptoBulk {H : Type} : DataW H → Nat
  | .lit (.string bytes) => bytes.length + 1
  | .lit _ => 1
  | .nil => 1
  | .ptr d => uptoBulk d + 1
  | .slice elems spare => uptoBulkAll elems + uptoBulkAll spare + 1
  | .agg parts => uptoBulkAll parts + 1
  | .iface _ d => uptoBulk d + 1
  | .map entries => uptoBulkEntries entries + 1
  | .held _ => 1
def uptoBulkAll {H : Type} : List (DataW H) → Nat
  | [] => 0
  | d :: r => uptoBulk d + uptoBulkAll r
def uptoBulkEntries {H : Type} : List (Lit × DataW H) → Nat
  | [] => 0
  | x :: r => uptoBulkEntry x + uptoBulkEntries r
def uptoBulkEntry {H : Type} : Lit × DataW H → Nat
  | (.string bytes, d) => bytes.length + uptoBulk d + 1
  | (_, d) => uptoBulk d + 1
 end
def uptoSmall : (H : Type) → List (DataW H) → Bool := fun _ ds => decide (uptoBulkAll ds ≤ 1048576)
def OpenSpec.upto (s : _root_.Go.ChangeSpec) : _root_.Go.OpenSpec := { _root_.Go.OpenSpec.ofChange s with cond := some uptoSmall }

/-- 'laws.FnExactPutNum', WHERE WHAT IT READS IS OF BULK AT MOST 1048576: true; the input reads as it did. -/
def fnExactPutNumUptoRow : OpenClaim := { program := "ytollfgpheonakaa", sum := "a34d62a83441bb90a83f96f018c62757014772246ab68b316c2397639e55bacd", func := "loop.example/g00705/laws.FnExactPutNum", spec := "fnExactPutNum", apart := false, narrowed := true }
def FnExactPutNumUptoSaid : Prop := fnExactPutNumUptoRow.holds Try.pinned (OpenSpec.upto fnExactPutNumSpec)

/-- 'laws.FnExactTakeNum', WHERE WHAT IT READS IS OF BULK AT MOST 1048576: true; the input reads as it did. -/
def fnExactTakeNumUptoRow : OpenClaim := { program := "ytollfgpheonakaa", sum := "a34d62a83441bb90a83f96f018c62757014772246ab68b316c2397639e55bacd", func := "loop.example/g00705/laws.FnExactTakeNum", spec := "fnExactTakeNum", apart := false, narrowed := true }
def FnExactTakeNumUptoSaid : Prop := fnExactTakeNumUptoRow.holds Try.pinned (OpenSpec.upto fnExactTakeNumSpec)

/-- 'laws.FnExactSameRecord', WHERE WHAT IT READS IS OF BULK AT MOST 1048576: true; the input reads as it did. -/
def fnExactSameRecordUptoRow : OpenClaim := { program := "ytollfgpheonakaa", sum := "a34d62a83441bb90a83f96f018c62757014772246ab68b316c2397639e55bacd", func := "loop.example/g00705/laws.FnExactSameRecord", spec := "fnExactSameRecord", apart := false, narrowed := true }
def FnExactSameRecordUptoSaid : Prop := fnExactSameRecordUptoRow.holds Try.pinned (OpenSpec.upto fnExactSameRecordSpec)

/-- 'laws.FnExactRecordOk', WHERE WHAT IT READS IS OF BULK AT MOST 1048576: true; the input reads as it did. -/
def fnExactRecordOkUptoRow : OpenClaim := { program := "ytollfgpheonakaa", sum := "a34d62a83441bb90a83f96f018c62757014772246ab68b316c2397639e55bacd", func := "loop.example/g00705/laws.FnExactRecordOk", spec := "fnExactRecordOk", unfollowed := true, recurses := true, apart := false, narrowed := true }
def FnExactRecordOkUptoSaid : Prop := fnExactRecordOkUptoRow.holds Try.pinned (OpenSpec.upto fnExactRecordOkSpec)

/-- 'laws.FnExactSyncLog', WHERE WHAT IT READS IS OF BULK AT MOST 1048576: true; the input reads as it did. -/
def fnExactSyncLogUptoRow : OpenClaim := { program := "ytollfgpheonakaa", sum := "a34d62a83441bb90a83f96f018c62757014772246ab68b316c2397639e55bacd", func := "loop.example/g00705/laws.FnExactSyncLog", spec := "fnExactSyncLog", apart := false, narrowed := true }
def FnExactSyncLogUptoSaid : Prop := fnExactSyncLogUptoRow.holds Try.pinned (OpenSpec.upto fnExactSyncLogSpec)

/-- 'laws.FnExactCrashLog', WHERE WHAT IT READS IS OF BULK AT MOST 1048576: true; the input reads as it did. -/
def fnExactCrashLogUptoRow : OpenClaim := { program := "ytollfgpheonakaa", sum := "a34d62a83441bb90a83f96f018c62757014772246ab68b316c2397639e55bacd", func := "loop.example/g00705/laws.FnExactCrashLog", spec := "fnExactCrashLog", apart := false, narrowed := true }
def FnExactCrashLogUptoSaid : Prop := fnExactCrashLogUptoRow.holds Try.pinned (OpenSpec.upto fnExactCrashLogSpec)

end Rows
end Go.Proofs.Ytollfgpheonakaa

/-
  No cell of these rows narrows 'for every input' (looked for: loops, veiled, ifaces, maps, wideKeys, modest, calm, conditions, laid).
  DERIVED. THE GIVEN ROWS OF THIS SEAT. 6 by the template 'for every input the law returns true; each argument reads behind the call as it read before'; 0 by the template 'total and deterministic' (their statements: YtgaenfkjobkmjaaTotals.lean).
  GIVEN WITH THE SEED: the statements are not yours to turn. If you find one false, say at which input.
  Laid BY PROGRAM, IN A SANDBOX (cutbox-rows.mjs): the forced cells as the released guide's own fill.sh prints them over the translation 25ef5d265f9a3ff7… (all of the seat's roots in one cut). By AI agents, Wed Nov 11 2026. No macro, syntax, notation, axiom, sorry.
-/
import Derived.Test.YtgaenfkjobkmjaaChecked
import GoSem.Claim
import GoSem.ClaimJoined
import GoSem.ClaimMapViews
import Derived.JoinedTies
import Derived.KernelRfl
namespace Go.Proofs.Ytgaenfkjobkmjaa
/- THE CELL 'sum', in the pinned program and in every row, IS THE sha256 OF THE DUMP (.gsa) THAT YtgaenfkjobkmjaaProg.lean LOADS. Nothing in Lean hashes anything: it is a label: what it is worth is what the hold of that sum in a sandbox is worth. -/
noncomputable def Try.pinned : Pinned := { name := "ytgaenfkjobkmjaa", sum := "25ef5d265f9a3ff770d83d3779573001a74986c43dee1d2aaf49b07f42328e3c", checked := Try.checked }
namespace Rows
def none {H : Type} : Left H := { results := [], args := [] }

/-- 'laws.FnRecords': WHATEVER THE INPUT: true; the input reads as it did. -/
def fnRecordsSpec : ChangeSpec := { name := "fnRecords", fn := fun _ => fun
  | [d] => { results := [.lit (.bool true)], args := [d] }
  | _ => none }
def fnRecordsRow : OpenClaim := { program := "ytgaenfkjobkmjaa", sum := "25ef5d265f9a3ff770d83d3779573001a74986c43dee1d2aaf49b07f42328e3c", func := "loop.example/g00705/laws.FnRecords", spec := "fnRecords", unfollowed := true, recurses := true, apart := false }
def FnRecordsSaid : Prop := fnRecordsRow.holds Try.pinned (OpenSpec.ofChange fnRecordsSpec)

/-- ITS FALSE NEIGHBOUR: 'it returns false'. Refute it at one input. -/
def fnRecordsWrong : ChangeSpec := { name := "fnRecords", fn := fun _ => fun
  | [d] => { results := [.lit (.bool false)], args := [d] }
  | _ => none }
def FnRecordsWrongFalsely : Prop := fnRecordsRow.holds Try.pinned (OpenSpec.ofChange fnRecordsWrong)

/-- 'laws.FnExactLooseRecords': WHATEVER THE INPUT: true; the input reads as it did. -/
def fnExactLooseRecordsSpec : ChangeSpec := { name := "fnExactLooseRecords", fn := fun _ => fun
  | [d] => { results := [.lit (.bool true)], args := [d] }
  | _ => none }
def fnExactLooseRecordsRow : OpenClaim := { program := "ytgaenfkjobkmjaa", sum := "25ef5d265f9a3ff770d83d3779573001a74986c43dee1d2aaf49b07f42328e3c", func := "loop.example/g00705/laws.FnExactLooseRecords", spec := "fnExactLooseRecords", unfollowed := true, recurses := true, apart := false }
def FnExactLooseRecordsSaid : Prop := fnExactLooseRecordsRow.holds Try.pinned (OpenSpec.ofChange fnExactLooseRecordsSpec)

/-- ITS FALSE NEIGHBOUR: 'it returns false'. Refute it at one input. -/
def fnExactLooseRecordsWrong : ChangeSpec := { name := "fnExactLooseRecords", fn := fun _ => fun
  | [d] => { results := [.lit (.bool false)], args := [d] }
  | _ => none }
def FnExactLooseRecordsWrongFalsely : Prop := fnExactLooseRecordsRow.holds Try.pinned (OpenSpec.ofChange fnExactLooseRecordsWrong)

/-- 'laws.FnExactScanFrames': WHATEVER THE INPUT: true; the input reads as it did. -/
def fnExactScanFramesSpec : ChangeSpec := { name := "fnExactScanFrames", fn := fun _ => fun
  | [d] => { results := [.lit (.bool true)], args := [d] }
  | _ => none }
def fnExactScanFramesRow : OpenClaim := { program := "ytgaenfkjobkmjaa", sum := "25ef5d265f9a3ff770d83d3779573001a74986c43dee1d2aaf49b07f42328e3c", func := "loop.example/g00705/laws.FnExactScanFrames", spec := "fnExactScanFrames", unfollowed := true, recurses := true, apart := false }
def FnExactScanFramesSaid : Prop := fnExactScanFramesRow.holds Try.pinned (OpenSpec.ofChange fnExactScanFramesSpec)

/-- ITS FALSE NEIGHBOUR: 'it returns false'. Refute it at one input. -/
def fnExactScanFramesWrong : ChangeSpec := { name := "fnExactScanFrames", fn := fun _ => fun
  | [d] => { results := [.lit (.bool false)], args := [d] }
  | _ => none }
def FnExactScanFramesWrongFalsely : Prop := fnExactScanFramesRow.holds Try.pinned (OpenSpec.ofChange fnExactScanFramesWrong)

/-- 'laws.FnExactRewriteLog': WHATEVER THE INPUT: true; the input reads as it did. -/
def fnExactRewriteLogSpec : ChangeSpec := { name := "fnExactRewriteLog", fn := fun _ => fun
  | [d1, d2] => { results := [.lit (.bool true)], args := [d1, d2] }
  | _ => none }
def fnExactRewriteLogRow : OpenClaim := { program := "ytgaenfkjobkmjaa", sum := "25ef5d265f9a3ff770d83d3779573001a74986c43dee1d2aaf49b07f42328e3c", func := "loop.example/g00705/laws.FnExactRewriteLog", spec := "fnExactRewriteLog", unfollowed := true, recurses := true, apart := false }
def FnExactRewriteLogSaid : Prop := fnExactRewriteLogRow.holds Try.pinned (OpenSpec.ofChange fnExactRewriteLogSpec)

/-- ITS FALSE NEIGHBOUR: 'it returns false'. Refute it at one input. -/
def fnExactRewriteLogWrong : ChangeSpec := { name := "fnExactRewriteLog", fn := fun _ => fun
  | [d1, d2] => { results := [.lit (.bool false)], args := [d1, d2] }
  | _ => none }
def FnExactRewriteLogWrongFalsely : Prop := fnExactRewriteLogRow.holds Try.pinned (OpenSpec.ofChange fnExactRewriteLogWrong)

/-- 'laws.FnExactRepairLog': WHATEVER THE INPUT: true; the input reads as it did. -/
def fnExactRepairLogSpec : ChangeSpec := { name := "fnExactRepairLog", fn := fun _ => fun
  | [d] => { results := [.lit (.bool true)], args := [d] }
  | _ => none }
def fnExactRepairLogRow : OpenClaim := { program := "ytgaenfkjobkmjaa", sum := "25ef5d265f9a3ff770d83d3779573001a74986c43dee1d2aaf49b07f42328e3c", func := "loop.example/g00705/laws.FnExactRepairLog", spec := "fnExactRepairLog", unfollowed := true, recurses := true, apart := false }
def FnExactRepairLogSaid : Prop := fnExactRepairLogRow.holds Try.pinned (OpenSpec.ofChange fnExactRepairLogSpec)

/-- ITS FALSE NEIGHBOUR: 'it returns false'. Refute it at one input. -/
def fnExactRepairLogWrong : ChangeSpec := { name := "fnExactRepairLog", fn := fun _ => fun
  | [d] => { results := [.lit (.bool false)], args := [d] }
  | _ => none }
def FnExactRepairLogWrongFalsely : Prop := fnExactRepairLogRow.holds Try.pinned (OpenSpec.ofChange fnExactRepairLogWrong)

/-- 'laws.FnSynced': WHATEVER THE INPUT: true; the input reads as it did. -/
def fnSyncedSpec : ChangeSpec := { name := "fnSynced", fn := fun _ => fun
  | [d] => { results := [.lit (.bool true)], args := [d] }
  | _ => none }
def fnSyncedRow : OpenClaim := { program := "ytgaenfkjobkmjaa", sum := "25ef5d265f9a3ff770d83d3779573001a74986c43dee1d2aaf49b07f42328e3c", func := "loop.example/g00705/laws.FnSynced", spec := "fnSynced", unfollowed := true, recurses := true, apart := false }
def FnSyncedSaid : Prop := fnSyncedRow.holds Try.pinned (OpenSpec.ofChange fnSyncedSpec)

/-- ITS FALSE NEIGHBOUR: 'it returns false'. Refute it at one input. -/
def fnSyncedWrong : ChangeSpec := { name := "fnSynced", fn := fun _ => fun
  | [d] => { results := [.lit (.bool false)], args := [d] }
  | _ => none }
def FnSyncedWrongFalsely : Prop := fnSyncedRow.holds Try.pinned (OpenSpec.ofChange fnSyncedWrong)

/- THE SECOND FORM. 'bulk': how many values and letters a reading holds, each counted each time it is reached (what is shared counts as often as it is met; a slice's spare places count too). A statement '..UptoSaid' is the law's where the arguments, and the package variables that the reading takes, are together of bulk at most 1048576: NARROWER than '..Said'. Prove '..Said' where nothing that the law and all that it calls make is longer than what came in: it says more and counts as full. Else prove '..UptoSaid'. A law counts once. -/
mutual
def uptoBulk {H : Type} : DataW H → Nat
  | .lit (.string bytes) => bytes.length + 1
  | .lit _ => 1
  | .nil => 1
  | .ptr d => uptoBulk d + 1
  | .slice elems spare => uptoBulkAll elems + uptoBulkAll spare + 1
  | .agg parts => uptoBulkAll parts + 1
  | .iface _ d => uptoBulk d + 1
  | .map entries => uptoBulkEntries entries + 1
  | .held _ => 1
def uptoBulkAll {H : Type} : List (DataW H) → Nat
  | [] => 0
  | d :: r => uptoBulk d + uptoBulkAll r
def uptoBulkEntries {H : Type} : List (Lit × DataW H) → Nat
  | [] => 0
  | x :: r => uptoBulkEntry x + uptoBulkEntries r
def uptoBulkEntry {H : Type} : Lit × DataW H → Nat
  | (.string bytes, d) => bytes.length + uptoBulk d + 1
  | (_, d) => uptoBulk d + 1
 end
def uptoSmall : (H : Type) → List (DataW H) → Bool := fun _ ds => decide (uptoBulkAll ds ≤ 1048576)
def OpenSpec.upto (s : _root_.Go.ChangeSpec) : _root_.Go.OpenSpec := { _root_.Go.OpenSpec.ofChange s with cond := some uptoSmall }

/-- 'laws.FnRecords', WHERE WHAT IT READS IS OF BULK AT MOST 1048576: true; the input reads as it did. -/
def fnRecordsUptoRow : OpenClaim := { program := "ytgaenfkjobkmjaa", sum := "25ef5d265f9a3ff770d83d3779573001a74986c43dee1d2aaf49b07f42328e3c", func := "loop.example/g00705/laws.FnRecords", spec := "fnRecords", unfollowed := true, recurses := true, apart := false, narrowed := true }
def FnRecordsUptoSaid : Prop := fnRecordsUptoRow.holds Try.pinned (OpenSpec.upto fnRecordsSpec)

/-- 'laws.FnExactLooseRecords', WHERE WHAT IT READS IS OF BULK AT MOST 1048576: true; the input reads as it did. -/
def fnExactLooseRecordsUptoRow : OpenClaim := { program := "ytgaenfkjobkmjaa", sum := "25ef5d265f9a3ff770d83d3779573001a74986c43dee1d2aaf49b07f42328e3c", func := "loop.example/g00705/laws.FnExactLooseRecords", spec := "fnExactLooseRecords", unfollowed := true, recurses := true, apart := false, narrowed := true }
def FnExactLooseRecordsUptoSaid : Prop := fnExactLooseRecordsUptoRow.holds Try.pinned (OpenSpec.upto fnExactLooseRecordsSpec)

/-- 'laws.FnExactScanFrames', WHERE WHAT IT READS IS OF BULK AT MOST 1048576: true; the input reads as it did. -/
def fnExactScanFramesUptoRow : OpenClaim := { program := "ytgaenfkjobkmjaa", sum := "25ef5d265f9a3ff770d83d3779573001a74986c43dee1d2aaf49b07f42328e3c", func := "loop.example/g00705/laws.FnExactScanFrames", spec := "fnExactScanFrames", unfollowed := true, recurses := true, apart := false, narrowed := true }
def FnExactScanFramesUptoSaid : Prop := fnExactScanFramesUptoRow.holds Try.pinned (OpenSpec.upto fnExactScanFramesSpec)

/-- 'laws.FnExactRewriteLog', WHERE WHAT IT READS IS OF BULK AT MOST 1048576: true; the input reads as it did. -/
def fnExactRewriteLogUptoRow : OpenClaim := { program := "ytgaenfkjobkmjaa", sum := "25ef5d265f9a3ff770d83d3779573001a74986c43dee1d2aaf49b07f42328e3c", func := "loop.example/g00705/laws.FnExactRewriteLog", spec := "fnExactRewriteLog", unfollowed := true, recurses := true, apart := false, narrowed := true }
def FnExactRewriteLogUptoSaid : Prop := fnExactRewriteLogUptoRow.holds Try.pinned (OpenSpec.upto fnExactRewriteLogSpec)

/-- 'laws.FnExactRepairLog', WHERE WHAT IT READS IS OF BULK AT MOST 1048576: true; the input reads as it did. -/
def fnExactRepairLogUptoRow : OpenClaim := { program := "ytgaenfkjobkmjaa", sum := "25ef5d265f9a3ff770d83d3779573001a74986c43dee1d2aaf49b07f42328e3c", func := "loop.example/g00705/laws.FnExactRepairLog", spec := "fnExactRepairLog", unfollowed := true, recurses := true, apart := false, narrowed := true }
def FnExactRepairLogUptoSaid : Prop := fnExactRepairLogUptoRow.holds Try.pinned (OpenSpec.upto fnExactRepairLogSpec)

/-- 'laws.FnSynced', WHERE WHAT IT READS IS OF BULK AT MOST 1048576: true; the input reads as it did. -/
def fnSyncedUptoRow : OpenClaim := { program := "ytgaenfkjobkmjaa", sum := "25ef5d265f9a3ff770d83d3779573001a74986c43dee1d2aaf49b07f42328e3c", func := "loop.example/g00705/laws.FnSynced", spec := "fnSynced", unfollowed := true, recurses := true, apart := false, narrowed := true }
def FnSyncedUptoSaid : Prop := fnSyncedUptoRow.holds Try.pinned (OpenSpec.upto fnSyncedSpec)

end Rows
end Go.Proofs.Ytgaenfkjobkmjaa

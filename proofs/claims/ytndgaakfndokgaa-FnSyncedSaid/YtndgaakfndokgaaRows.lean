/-
  No cell of these rows narrows 'for every input' (looked for: loops, veiled, ifaces, maps, wideKeys, modest, calm, conditions, laid).
  DERIVED. THE GIVEN ROWS OF THIS SEAT. 2 by the template 'for every input the law returns true; each argument reads behind the call as it read before'; 0 by the template 'total and deterministic' (their statements: YtndgaakfndokgaaTotals.lean).
  GIVEN WITH THE SEED: the statements are not yours to turn. If you find one false, say at which input.
  Laid BY PROGRAM, IN A SANDBOX (cutbox-rows.mjs): the forced cells as the released guide's own fill.sh prints them over the translation 5b082f5823ffe01a… (all of the seat's roots in one cut). By AI agents, Wed Nov 11 2026. No macro, syntax, notation, axiom, sorry.
-/
import Derived.Test.YtndgaakfndokgaaChecked
import GoSem.Claim
import GoSem.ClaimJoined
import GoSem.ClaimMapViews
import Derived.JoinedTies
import Derived.KernelRfl
namespace Go.Proofs.Ytndgaakfndokgaa
/- THE CELL 'sum', in the pinned program and in every row, IS THE sha256 OF THE DUMP (.gsa) THAT YtndgaakfndokgaaProg.lean LOADS. Nothing in Lean hashes anything: it is a label: what it is worth is what the hold of that sum in a sandbox is worth. -/
noncomputable def Try.pinned : Pinned := { name := "ytndgaakfndokgaa", sum := "5b082f5823ffe01a4e7cf0680b476d726d5e9a2ccbc26be7fa865e836d18bdb7", checked := Try.checked }
namespace Rows
def none {H : Type} : Left H := { results := [], args := [] }

/-- 'laws.FnRecords': WHATEVER THE INPUT: true; the input reads as it did. -/
def fnRecordsSpec : ChangeSpec := { name := "fnRecords", fn := fun _ => fun
  | [d] => { results := [.lit (.bool true)], args := [d] }
  | _ => none }
def fnRecordsRow : OpenClaim := { program := "ytndgaakfndokgaa", sum := "5b082f5823ffe01a4e7cf0680b476d726d5e9a2ccbc26be7fa865e836d18bdb7", func := "loop.example/g00705/laws.FnRecords", spec := "fnRecords", unfollowed := true, recurses := true, apart := false }
def FnRecordsSaid : Prop := fnRecordsRow.holds Try.pinned (OpenSpec.ofChange fnRecordsSpec)

/-- ITS FALSE NEIGHBOUR: 'it returns false'. Refute it at one input. -/
def fnRecordsWrong : ChangeSpec := { name := "fnRecords", fn := fun _ => fun
  | [d] => { results := [.lit (.bool false)], args := [d] }
  | _ => none }
def FnRecordsWrongFalsely : Prop := fnRecordsRow.holds Try.pinned (OpenSpec.ofChange fnRecordsWrong)

/-- 'laws.FnSynced': WHATEVER THE INPUT: true; the input reads as it did. -/
def fnSyncedSpec : ChangeSpec := { name := "fnSynced", fn := fun _ => fun
  | [d] => { results := [.lit (.bool true)], args := [d] }
  | _ => none }
def fnSyncedRow : OpenClaim := { program := "ytndgaakfndokgaa", sum := "5b082f5823ffe01a4e7cf0680b476d726d5e9a2ccbc26be7fa865e836d18bdb7", func := "loop.example/g00705/laws.FnSynced", spec := "fnSynced", unfollowed := true, recurses := true, apart := false }
def FnSyncedSaid : Prop := fnSyncedRow.holds Try.pinned (OpenSpec.ofChange fnSyncedSpec)

/-- ITS FALSE NEIGHBOUR: 'it returns false'. Refute it at one input. -/
def fnSyncedWrong : ChangeSpec := { name := "fnSynced", fn := fun _ => fun
  | [d] => { results := [.lit (.bool false)], args := [d] }
  | _ => none }
def FnSyncedWrongFalsely : Prop := fnSyncedRow.holds Try.pinned (OpenSpec.ofChange fnSyncedWrong)

/- THE SECOND FORM. 'bulk': how many values and letters a reading holds, each counted each time it is reached (what is shared counts as often as it is met; a slice's spare places count too). A statement '..UptoSaid' is the law's where the arguments, and the package variables that the reading takes, are together of bulk at most 1048576: NARROWER than '..Said'. Prove '..Said' where nothing that the law and all that it calls make is longer than what came in: it says more and counts as full. Else prove '..UptoSaid'. A law counts once. -/
mutual
def uptoBulk {H : Type} : DataW H → Nat
  | .lit (.string bytes) => bytes.length + 1
  | .lit _ => 1
  | .nil => 1
  | .ptr d => uptoBulk d + 1
  | .slice elems spare => uptoBulkAll elems + uptoBulkAll spare + 1
  | .agg parts => uptoBulkAll parts + 1
  | .iface _ d => uptoBulk d + 1
  | .map entries => uptoBulkEntries entries + 1
  | .held _ => 1
def uptoBulkAll {H : Type} : List (DataW H) → Nat
  | [] => 0
  | d :: r => uptoBulk d + uptoBulkAll r
def uptoBulkEntries {H : Type} : List (Lit × DataW H) → Nat
  | [] => 0
  | x :: r => uptoBulkEntry x + uptoBulkEntries r
def uptoBulkEntry {H : Type} : Lit × DataW H → Nat
  | (.string bytes, d) => bytes.length + uptoBulk d + 1
  | (_, d) => uptoBulk d + 1
 end
def uptoSmall : (H : Type) → List (DataW H) → Bool := fun _ ds => decide (uptoBulkAll ds ≤ 1048576)
def OpenSpec.upto (s : _root_.Go.ChangeSpec) : _root_.Go.OpenSpec := { _root_.Go.OpenSpec.ofChange s with cond := some uptoSmall }

/-- 'laws.FnRecords', WHERE WHAT IT READS IS OF BULK AT MOST 1048576: true; the input reads as it did. -/
def fnRecordsUptoRow : OpenClaim := { program := "ytndgaakfndokgaa", sum := "5b082f5823ffe01a4e7cf0680b476d726d5e9a2ccbc26be7fa865e836d18bdb7", func := "loop.example/g00705/laws.FnRecords", spec := "fnRecords", unfollowed := true, recurses := true, apart := false, narrowed := true }
def FnRecordsUptoSaid : Prop := fnRecordsUptoRow.holds Try.pinned (OpenSpec.upto fnRecordsSpec)

/-- 'laws.FnSynced', WHERE WHAT IT READS IS OF BULK AT MOST 1048576: true; the input reads as it did. -/
def fnSyncedUptoRow : OpenClaim := { program := "ytndgaakfndokgaa", sum := "5b082f5823ffe01a4e7cf0680b476d726d5e9a2ccbc26be7fa865e836d18bdb7", func := "loop.example/g00705/laws.FnSynced", spec := "fnSynced", unfollowed := true, recurses := true, apart := false, narrowed := true }
def FnSyncedUptoSaid : Prop := fnSyncedUptoRow.holds Try.pinned (OpenSpec.upto fnSyncedSpec)

end Rows
end Go.Proofs.Ytndgaakfndokgaa
